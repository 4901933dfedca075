/- Pages forgotten in place (plan.forget). -/
import Derived.Test.YtnmhhelcaibdoaaPi
namespace Go.Proofs.Ytnmhhelcaibdoaa.Pl
open Go Go.RowKit Sl
set_option linter.unusedVariables false
set_option linter.unusedSimpArgs false
theorem _root_.Go.Proofs.Ytnmhhelcaibdoaa.Sl.Put.appl {L L' R : Own} {b : Nat} {o o' : Obj} (h : Put L b o o' L') : Put (L ++ R) b o o' (L' ++ R) := by
  induction h with
  | here => exact .here
  | there _ ih => exact .there ih
theorem LW.get {lv : List (Int × Value)} {lo : List Lg} {S : Own} (h : LW lv lo S) : ∀ {k : Nat} {l : Lg}, lo[k]? = some l → ∃ Ap cp, lv[k]? = some (l.ph, .slice Ap l.pg.length cp) ∧ l.pg.length ≤ cp ∧ l.pg.length ≤ 1152921504606846976 ∧ (l.pg ≠ [] → Ap = some ⟨bk Ap, of_ Ap, none⟩) ∧
    (∀ w0 j p, l.pg[j]? = some p → Rd w0 S ⟨bk Ap, of_ Ap + j, none⟩ (.int .i64 p)) ∧
    (∀ j x, j < l.pg.length → ∃ cs S', Put S (bk Ap) (B 3 cs) (B 3 (cs.set (of_ Ap + j) (.int .i64 x))) S' ∧ of_ Ap + j < cs.length ∧ LW lv (lo.set k ⟨l.ph, l.pg.set j x⟩) S') := by
  induction h with
  | nil => intro k l hl; simp at hl
  | @snoc lv lo S S1 ph pv pg h h1 hb ih =>
    intro k l hl
    have hlen := h.len
    by_cases hk : k < lo.length
    · rw [List.getElem?_append_left hk] at hl
      obtain ⟨Ap, cp, e1, e2, e3, e4, e5, e6⟩ := ih hl
      refine ⟨Ap, cp, by rw [List.getElem?_append_left (by omega)]; exact e1, e2, e3, e4, fun w0 j p hp => (e5 w0 j p hp).sub (List.sublist_append_right _ _), fun j x hj => ?_⟩
      obtain ⟨cs, S', g1, g2, g3⟩ := e6 j x hj
      exact ⟨cs, S1 ++ S', g1.app, g2, by rw [List.set_append_left _ _ hk]; exact .snoc g3 h1 hb⟩
    · rw [List.getElem?_append_right (by omega)] at hl
      have hk0 : k = lo.length := by
        have := (List.getElem?_eq_some_iff.1 hl).1
        simp at this; omega
      subst hk0
      rw [Nat.sub_self] at hl
      simp at hl
      subst hl
      have hset : ∀ y : Lg, (lo ++ [(⟨ph, pg⟩ : Lg)]).set lo.length y = lo ++ [y] := fun y => by rw [List.set_append_right _ _ (Nat.le_refl _), Nat.sub_self]; rfl
      have hlv : ∀ y : Int × Value, (lv ++ [y])[lo.length]? = some y := fun y => by rw [← hlen]; simp
      generalize hcs : pg.map (Value.int .i64) = cs at h1
      generalize hle : pg.length = len at h1
      cases h1 with
      | nil =>
        have hp : pg = [] := List.length_eq_zero_iff.1 hle
        subst hp
        exact ⟨none, 0, hlv _, Nat.le_refl _, by simp, fun h => absurd rfl h, fun w0 j p hp => by simp at hp, fun j x hj => absurd hj (by simp)⟩
      | @own b _ sp _ cap hl1 hc hsp =>
        refine ⟨some ⟨b, 0, none⟩, cap, by rw [hlv], by omega, by omega, fun _ => rfl, fun w0 j p hp => ?_, fun j x hj => ?_⟩
        · have hjl := (List.getElem?_eq_some_iff.1 hp).1
          have : (cs ++ sp)[0 + j]? = some (.int .i64 p) := by
            rw [Nat.zero_add, List.getElem?_append_left (by rw [← hcs, List.length_map]; exact hjl), ← hcs, List.getElem?_map, hp]; rfl
          exact (Rd.own (T := 3) .here this).sub (List.sublist_append_left _ _)
        · refine ⟨cs ++ sp, [(b, B 3 ((pg.set j x).map (Value.int .i64) ++ sp))] ++ S, ?_, ?_, ?_⟩
          · have e : (cs ++ sp).set (of_ (some (⟨b, 0, none⟩ : Addr)) + j) (.int .i64 x) = (pg.set j x).map (Value.int .i64) ++ sp := by
              show (cs ++ sp).set (0 + j) _ = _
              have hjl : j < pg.length := by rw [hle]; exact hj
              rw [Nat.zero_add, List.set_append_left _ _ (by rw [← hcs, List.length_map]; exact hjl), ← hcs, List.map_set]
            rw [e]; exact .here
          · show 0 + j < _
            have hjl : j < pg.length := by rw [hle]; exact hj
            rw [List.length_append, ← hcs, List.length_map]; omega
          · rw [hset]
            refine .snoc h ?_ (by simpa using hb)
            rw [List.length_set, hle]
            exact .own (by simp; omega) hc hsp
/-- A page forgotten. -/
def fq (φ : Int → Bool) (p : Int) : Int := if 0 ≤ p ∧ φ p = true then -1 else p
def fgt (φ : Int → Bool) (lo : List Lg) : List Lg := lo.map fun l => ⟨l.ph, l.pg.map (fq φ)⟩
def fgs (φ : Int → Bool) (lo : List Lg) (k j : Nat) : List Lg := lo.mapIdx fun i l => ⟨l.ph, l.pg.mapIdx fun m p => if i < k ∨ (i = k ∧ m < j) then fq φ p else p⟩
theorem lg_ext {l l' : Lg} (h1 : l.ph = l'.ph) (h2 : l.pg = l'.pg) : l = l' := by cases l; cases l'; simp_all
section
variable {φ : Int → Bool} {lo : List Lg} {k j : Nat}
theorem fgs_get {l : Lg} (hl : lo[k]? = some l) : (fgs φ lo k j)[k]? = some ⟨l.ph, l.pg.mapIdx fun m p => if m < j then fq φ p else p⟩ := by
  unfold fgs
  rw [List.getElem?_mapIdx, hl]
  simp
theorem mapIdx_at {l : List Int} {p : Int} (hp : l[j]? = some p) : (l.mapIdx fun m p => if m < j then fq φ p else p)[j]? = some p := by
  rw [List.getElem?_mapIdx, hp]; simp
theorem mapIdx_ne {l : List Int} {f : Nat → Int → Int} (h : 0 < l.length) : l.mapIdx f ≠ [] := fun e => by
  have := congrArg List.length e
  rw [List.length_mapIdx] at this
  rw [this] at h; exact absurd h (Nat.lt_irrefl 0)
theorem fgs_len : (fgs φ lo k j).length = lo.length := by simp [fgs]
theorem fgs_zero : fgs φ lo 0 0 = lo := by
  apply List.ext_getElem
  · simp [fgs]
  · intro i h1 h2
    refine lg_ext (by simp [fgs]) ?_
    simp only [fgs, List.getElem_mapIdx]
    apply List.ext_getElem
    · simp
    · intro m h3 h4; simp
theorem fgs_end : fgs φ lo lo.length 0 = fgt φ lo := by
  apply List.ext_getElem
  · simp [fgs, fgt]
  · intro i h1 h2
    have hi : i < lo.length := by simpa [fgs] using h1
    refine lg_ext (by simp [fgs, fgt]) ?_
    simp only [fgs, fgt, List.getElem_mapIdx, List.getElem_map]
    apply List.ext_getElem
    · simp
    · intro m h3 h4; simp [hi]
theorem fgs_row {l : Lg} (hl : lo[k]? = some l) (hj : l.pg.length ≤ j) : fgs φ lo k j = fgs φ lo (k + 1) 0 := by
  apply List.ext_getElem
  · simp [fgs]
  · intro i h1 h2
    refine lg_ext (by simp [fgs]) ?_
    simp only [fgs, List.getElem_mapIdx]
    apply List.ext_getElem
    · simp
    · intro m h3 h4
      simp only [List.getElem_mapIdx]
      have hm : m < (lo[i]'(by simpa [fgs] using h1)).pg.length := by simpa using h3
      by_cases hik : i = k
      · subst hik
        have : lo[i]'(by simpa [fgs] using h1) = l := (List.getElem?_eq_some_iff.1 hl).2
        rw [this] at hm
        rw [if_pos (Or.inr ⟨rfl, by omega⟩), if_pos (Or.inl (by omega))]
      · by_cases hlt : i < k
        · rw [if_pos (Or.inl hlt), if_pos (Or.inl (by omega))]
        · rw [if_neg (by omega), if_neg (by omega)]
theorem fgs_skip {l : Lg} {p : Int} (hl : lo[k]? = some l) (hp : l.pg[j]? = some p) (hq : fq φ p = p) : fgs φ lo k j = fgs φ lo k (j + 1) := by
  apply List.ext_getElem
  · simp [fgs]
  · intro i h1 h2
    refine lg_ext (by simp [fgs]) ?_
    simp only [fgs, List.getElem_mapIdx]
    apply List.ext_getElem
    · simp
    · intro m h3 h4
      simp only [List.getElem_mapIdx]
      have hm : m < (lo[i]'(by simpa [fgs] using h1)).pg.length := by simpa using h3
      by_cases hik : i = k ∧ m = j
      · obtain ⟨rfl, rfl⟩ := hik
        have e1 : lo[i]'(by simpa [fgs] using h1) = l := (List.getElem?_eq_some_iff.1 hl).2
        have e2 : (lo[i]'(by simpa [fgs] using h1)).pg[m]'hm = p := by
          have := (List.getElem?_eq_some_iff.1 hp).2
          simp only [e1]; exact this
        rw [if_neg (by omega), if_pos (Or.inr ⟨rfl, by omega⟩), e2, hq]
      · by_cases h : i < k ∨ (i = k ∧ m < j)
        · rw [if_pos h, if_pos (by omega)]
        · rw [if_neg h, if_neg (by omega)]
theorem fgs_set {l l' : Lg} {p x : Int} (hl : lo[k]? = some l) (hp : l.pg[j]? = some p) (hq : fq φ p = x) (hl' : (fgs φ lo k j)[k]? = some l') : (fgs φ lo k j).set k ⟨l'.ph, l'.pg.set j x⟩ = fgs φ lo k (j + 1) := by
  rw [fgs_get hl] at hl'
  cases hl'
  have hkl : k < lo.length := (List.getElem?_eq_some_iff.1 hl).1
  have hle : lo[k] = l := (List.getElem?_eq_some_iff.1 hl).2
  apply List.ext_getElem
  · simp [fgs]
  · intro i h1 h2
    have hi : i < lo.length := by simpa [fgs] using h1
    rw [List.getElem_set]
    by_cases hik : k = i
    · subst hik
      rw [if_pos rfl]
      refine lg_ext (by simp [fgs, hle]) ?_
      simp only [fgs, List.getElem_mapIdx, hle]
      apply List.ext_getElem
      · simp
      · intro m h3 h4
        rw [List.getElem_set]
        simp only [List.getElem_mapIdx]
        have hm : m < l.pg.length := by simpa using h3
        by_cases hmj : j = m
        · subst hmj
          have e2 : l.pg[j] = p := (List.getElem?_eq_some_iff.1 hp).2
          rw [if_pos rfl, if_pos (Or.inr ⟨trivial, by omega⟩), e2, hq]
        · rw [if_neg hmj]
          by_cases h : m < j
          · rw [if_pos h, if_pos (Or.inr ⟨trivial, by omega⟩)]
          · rw [if_neg h, if_neg (by omega)]
    · rw [if_neg hik]
      refine lg_ext (by simp [fgs]) ?_
      simp only [fgs, List.getElem_mapIdx]
      apply List.ext_getElem
      · simp
      · intro m h3 h4
        simp only [List.getElem_mapIdx]
        by_cases h : i < k
        · rw [if_pos (Or.inl h), if_pos (Or.inl h)]
        · rw [if_neg (by omega), if_neg (by omega)]
end
/-- The logs' own array, opened. -/
theorem logs_opn {vl : Value} {lv : List (Int × Value)} {n : Nat} {Sv : Own} (h : OSl 102 2 vl (lv.flatMap encL) n Sv) (hl : lv.length = n) (hb : n ≤ 1048576) : ∃ A c, vl = .slice A n c ∧ n ≤ c ∧ (0 < n → A = some ⟨bk A, of_ A, none⟩) ∧
    ∀ (w0 : World) (L : Own), Sv.Sublist L → ∀ k x, lv[k]? = some x → Rd w0 L ⟨bk A, of_ A + k * 2, none⟩ (.int .i64 x.1) ∧ Rd w0 L ⟨bk A, of_ A + k * 2 + 1, none⟩ x.2 := by
  generalize hcs : lv.flatMap encL = cs at h
  cases h with
  | nil => exact ⟨none, 0, rfl, Nat.le_refl _, fun h => absurd h (by decide), fun w0 L hs k x hx => by rw [List.length_eq_zero_iff.1 hl] at hx; simp at hx⟩
  | @own b _ sp _ cap hl1 hc hsp =>
    refine ⟨some ⟨b, 0, none⟩, cap, rfl, hc, fun _ => rfl, fun w0 L hs k x hx => ?_⟩
    subst hcs
    have f0 := flat_get (enc := encL) (s := 2) (fun _ => rfl) lv k 0 _ (.int .i64 x.1) hx rfl
    have f1 := flat_get (enc := encL) (s := 2) (fun _ => rfl) lv k 1 _ x.2 hx rfl
    refine ⟨(Rd.own (T := 102) (cs := lv.flatMap encL ++ sp) .here ?_).sub hs, (Rd.own (T := 102) (cs := lv.flatMap encL ++ sp) .here ?_).sub hs⟩
    · rw [show of_ (some (⟨b, 0, none⟩ : Addr)) + k * 2 = k * 2 + 0 by simp [of_], List.getElem?_append_left (List.getElem?_eq_some_iff.1 f0).1]; exact f0
    · rw [show of_ (some (⟨b, 0, none⟩ : Addr)) + k * 2 + 1 = k * 2 + 1 by simp [of_], List.getElem?_append_left (List.getElem?_eq_some_iff.1 f1).1]; exact f1
theorem rd2' {w0 : World} {L : Own} {b o : Nat} {v1 v2 : Value} (h1 : Rd w0 L ⟨b, o, none⟩ v1) (h2 : Rd w0 L ⟨b, o + 1, none⟩ v2) : ∀ i v, [v1, v2][i]? = some v → Rd w0 L ((⟨b, o, none⟩ : Addr).add i) v := by
  intro i v h
  rw [addr_add]
  match i with
  | 0 => simp at h; subst h; exact h1
  | 1 => simp at h; subst h; exact h2
  | i + 2 => simp at h
section
variable {w0 : World} {R : Own}
theorem forget_g {kf : Nat} [CFN Try.prog kf] {cap : Array Value} {φ : Int → Bool} {P G K sp sl su : Int} {vd vh vl : Value} (hvd : ∃ A n c, vd = .slice A n c) (hvh : ∃ A n c, vh = .slice A n c) {lv : List (Int × Value)} {lo : List Lg} {Sv Sp : Own} (hc : lo.length ≤ 1048576) (hSv : OSl 102 2 vl (lv.flatMap encL) lo.length Sv) (hLW : LW lv lo Sp)
    (hφ : ∀ x L', 0 ≤ x → (∃ l ∈ lo, x ∈ l.pg) → R.Sublist L' → Gives Try.prog w0 L' kf ([.int .i64 x] ++ cap.toList) (fun v' L2 => v' = .bool (decide (φ x = true)) ∧ L2 = L')) :
    Gives Try.prog w0 (Sv ++ (Sp ++ R)) 62 [.agg #[.int .i64 P, .int .i64 G, .int .i64 K, vd, vh, .int .i64 sp, .int .i64 sl, .int .i64 su, vl], .func (.func kf) #[] cap] (fun v' L' => v' = .tuple #[] ∧ ∃ Sp', L' = Sv ++ (Sp' ++ R) ∧ LW lv (fgt φ lo) Sp') := by
  refine enter Try.func62 rfl Try.ntmps62 Try.results62 (Nat.le_of_ble_eq_true rfl) ?_
  obtain ⟨Ad, nd, cd, rfl⟩ := hvd
  obtain ⟨Ah, nh, ch, rfl⟩ := hvh
  obtain ⟨Al, cl, rfl, hcl, hAl, hRl⟩ := logs_opn hSv hLW.len hc
  refine c_seq ?_
  refine c_region ?_
  refine x_boxa rfl (by (conv => lhs; whnf); first | done | rfl) ?_
  intro b2
  refine w_nil ?_
  refine tq_n ?_
  refine c_seq ?_
  refine c_region ?_
  refine x_fa rfl (by (conv => lhs; whnf); first | done | rfl) ?_
  refine x_ldo rfl (by (conv => lhs; whnf); first | done | rfl) (by first | exact HasC.out | exact PutC.out | repeat (first | exact .here | apply Has.there | apply Put.there | apply Has.app | apply Put.app)) (by (conv => lhs; whnf); first | done | rfl) ?_
  refine x_len rfl (by (conv => lhs; whnf); first | done | rfl) ?_
  refine w_mov rfl (by (conv => lhs; whnf); first | done | rfl) ?_
  refine w_nil ?_
  refine tq_n ?_
  refine c_block ?_
  refine c_loop_ov [12, 13, 14, 5, 15, 16, 17, 18, 19, 20, 21, 22, 6, 7, 23, 24, 25, 26, 27, 28, 29, 30, 31, 32, 33, 34, 35, 11] (fun m s L => ∃ (k : Nat) (Sp' : Own), k ≤ lo.length ∧ LW lv (fgs φ lo k 0) Sp' ∧ m = lo.length - k ∧ s = [(11, .int .i64 k)] ∧ L = (b2, B 43 [.int .i64 P, .int .i64 G, .int .i64 K, .slice Ad nd cd, .slice Ah nh ch, .int .i64 sp, .int .i64 sl, .int .i64 su, .slice Al lo.length cl]) :: (Sv ++ (Sp' ++ R))) (lo.length) [(11, .int .i64 (0 : Nat))] (by repeat (first | exact .nil | refine .cons rfl ?_)) (by first | exact SubL.out | repeat (first | exact List.Sublist.refl _ | exact List.nil_sublist _ | refine .cons_cons _ ?_ | refine .cons _ ?_ | refine List.Sublist.append (List.Sublist.refl _) ?_ | exact List.sublist_append_left _ _ | refine List.Sublist.trans ?_ (List.sublist_append_right _ _))) (⟨0, Sp, by omega, by rw [fgs_zero]; exact hLW, by omega, rfl, rfl⟩) ?_
  rintro mI sI LI gL0 ⟨k, Sp', hk, hW, rfl, rfl, rfl⟩
  refine c_seq ?_
  refine c_region ?_
  refine w_lss rfl (by (conv => lhs; whnf); first | done | rfl) (by (conv => lhs; whnf); first | done | rfl) ?_
  refine w_nil ?_
  refine tq_n ?_
  refine c_seq ?_
  refine c_cond_d (by (conv => lhs; whnf); first | done | rfl) (fun hc12 => ?_) (fun hc12 => ?_)
  · have hlt : k < lo.length := by omega
    obtain ⟨Ap, cp, hlv, hpc, hpl, hpA, hpR, hpP⟩ := hW.get (fgs_get (φ := φ) (j := 0) (getN hlt))
    simp only [List.length_mapIdx] at hlv hpc hpl
    refine c_skip ?_
    refine tq_n ?_
    refine c_seq ?_
    refine c_block ?_
    refine c_seq ?_
    refine c_region ?_
    refine x_ixA rfl (by (conv => lhs; whnf); first | done | rfl) (by (conv => lhs; whnf); first | done | rfl) (hAl (by omega)) (by omega) (by omega) ?_
    refine x_lda (vs := [.int .i64 (lo[k]'hlt).ph, .slice Ap (lo[k]'hlt).pg.length cp]) rfl (by (conv => lhs; whnf); first | done | rfl) (rfl) (rd2' (hRl _ _ (by first | exact SubL.out | repeat (first | exact List.Sublist.refl _ | exact List.nil_sublist _ | refine .cons_cons _ ?_ | refine .cons _ ?_ | refine List.Sublist.append (List.Sublist.refl _) ?_ | exact List.sublist_append_left _ _ | refine List.Sublist.trans ?_ (List.sublist_append_right _ _))) _ _ hlv).1 (hRl _ _ (by first | exact SubL.out | repeat (first | exact List.Sublist.refl _ | exact List.nil_sublist _ | refine .cons_cons _ ?_ | refine .cons _ ?_ | refine List.Sublist.append (List.Sublist.refl _) ?_ | exact List.sublist_append_left _ _ | refine List.Sublist.trans ?_ (List.sublist_append_right _ _))) _ _ hlv).2) ?_
    refine x_al rfl ?_
    intro b5
    refine x_stw rfl (by (conv => lhs; whnf); first | done | rfl) (by (conv => lhs; whnf); first | done | rfl) rfl rfl (by first | exact HasC.out | exact PutC.out | repeat (first | exact .here | apply Has.there | apply Put.there | apply Has.app | apply Put.app)) rfl ?_
    refine w_nil ?_
    refine tq_n ?_
    refine c_seq ?_
    refine c_region ?_
    refine x_fa rfl (by (conv => lhs; whnf); first | done | rfl) ?_
    refine x_ldo rfl (by (conv => lhs; whnf); first | done | rfl) (by first | exact HasC.out | exact PutC.out | repeat (first | exact .here | apply Has.there | apply Put.there | apply Has.app | apply Put.app)) (by (conv => lhs; whnf); first | done | rfl) ?_
    refine x_len rfl (by (conv => lhs; whnf); first | done | rfl) ?_
    refine w_mov rfl (by (conv => lhs; whnf); first | done | rfl) ?_
    refine w_nil ?_
    refine tq_n ?_
    refine c_block ?_
    refine c_loop_ov [19, 20, 21, 22, 6, 7, 23, 24, 25, 26, 27, 28, 29, 30, 31, 32, 33, 34, 18] (fun m s L => ∃ (j : Nat) (Sp' : Own), j ≤ (lo[k]'hlt).pg.length ∧ LW lv (fgs φ lo k j) Sp' ∧ m = (lo[k]'hlt).pg.length - j ∧ s = [(18, .int .i64 j)] ∧ L = (b5, B 102 [.int .i64 (lo[k]'hlt).ph, .slice Ap (lo[k]'hlt).pg.length cp]) :: (b2, B 43 [.int .i64 P, .int .i64 G, .int .i64 K, .slice Ad nd cd, .slice Ah nh ch, .int .i64 sp, .int .i64 sl, .int .i64 su, .slice Al lo.length cl]) :: (Sv ++ (Sp' ++ R))) ((lo[k]'hlt).pg.length) [(18, .int .i64 (0 : Nat))] (by repeat (first | exact .nil | refine .cons rfl ?_)) (by first | exact SubL.out | repeat (first | exact List.Sublist.refl _ | exact List.nil_sublist _ | refine .cons_cons _ ?_ | refine .cons _ ?_ | refine List.Sublist.append (List.Sublist.refl _) ?_ | exact List.sublist_append_left _ _ | refine List.Sublist.trans ?_ (List.sublist_append_right _ _))) (⟨0, Sp', by omega, hW, by omega, rfl, rfl⟩) ?_
    rintro mI sI LI gL1 ⟨j, Sp2, hj, hW2, rfl, rfl, rfl⟩
    refine c_seq ?_
    refine c_region ?_
    refine w_lss rfl (by (conv => lhs; whnf); first | done | rfl) (by (conv => lhs; whnf); first | done | rfl) ?_
    refine w_nil ?_
    refine tq_n ?_
    refine c_seq ?_
    refine c_cond_d (by (conv => lhs; whnf); first | done | rfl) (fun hc19 => ?_) (fun hc19 => ?_)
    · have hjlt : j < (lo[k]'hlt).pg.length := by omega
      obtain ⟨Aq, cq, hlq, hqc, hql, hqA, hqR, hqP⟩ := hW2.get (fgs_get (φ := φ) (j := j) (getN hlt))
      simp only [List.length_mapIdx] at hlq hqP
      rw [hlv] at hlq
      obtain ⟨rfl, rfl⟩ : Ap = Aq ∧ cp = cq := (by simpa using hlq)
      refine c_skip ?_
      refine tq_n ?_
      refine c_seq ?_
      refine c_block ?_
      refine c_seq ?_
      refine c_region ?_
      refine w_mov rfl (by (conv => lhs; whnf); first | done | rfl) ?_
      refine x_ixA rfl (by (conv => lhs; whnf); first | done | rfl) (by (conv => lhs; whnf); first | done | rfl) (hpA (mapIdx_ne (by omega))) (by omega) (by omega) ?_
      refine x_ld rfl (by (conv => lhs; whnf); first | done | rfl) ((by rw [Nat.mul_one]; exact (hqR w0 j ((lo[k]'hlt).pg[j]'hjlt) (mapIdx_at (getN hjlt))).sub (by first | exact SubL.out | repeat (first | exact List.Sublist.refl _ | exact List.nil_sublist _ | refine .cons_cons _ ?_ | refine .cons _ ?_ | refine List.Sublist.append (List.Sublist.refl _) ?_ | exact List.sublist_append_left _ _ | refine List.Sublist.trans ?_ (List.sublist_append_right _ _))))) ?_
      refine w_asg rfl (by (conv => lhs; whnf); first | done | rfl) ?_
      refine w_asg rfl (by (conv => lhs; whnf); first | done | rfl) ?_
      refine w_nil ?_
      refine tq_n ?_
      refine c_seq ?_
      refine c_region_js [23, 24, 25, 26, 27, 28, 29] 29 (.bool (decide (0 ≤ (lo[k]'hlt).pg[j]'hjlt ∧ φ ((lo[k]'hlt).pg[j]'hjlt) = true))) ?_ (fun g7 => ?_)
      · all_goals (refine w_mov rfl (by (conv => lhs; whnf); first | done | rfl) ?_)
        all_goals (refine w_geq rfl (by (conv => lhs; whnf); first | done | rfl) (by (conv => lhs; whnf); first | done | rfl) ?_)
        all_goals (refine w_mov rfl (by (conv => lhs; whnf); first | done | rfl) ?_)
        all_goals (first | refine w_lit true rfl rfl rfl ?_ | refine w_lit false rfl rfl rfl ?_ | refine w_cases_od rfl rfl rfl (fun hg => ?_) (fun hg => ?_) | refine w_cases_o rfl rfl rfl (fun hg => ?_) (fun hg => ?_) | skip)
        all_goals (first | refine w_skip rfl ?_ | (refine w_mov rfl (by (conv => lhs; whnf); first | done | rfl) ?_))
        all_goals (first | refine w_skip rfl ?_ | (refine w_mov rfl (by (conv => lhs; whnf); first | done | rfl) ?_))
        all_goals (first | refine w_skip rfl ?_ | (refine x_callp (by decide) (hφ _ _ hg ⟨_, List.getElem_mem hlt, List.getElem_mem hjlt⟩ (by first | exact SubL.out | repeat (first | exact List.Sublist.refl _ | exact List.nil_sublist _ | refine .cons_cons _ ?_ | refine .cons _ ?_ | refine List.Sublist.append (List.Sublist.refl _) ?_ | exact List.sublist_append_left _ _ | refine List.Sublist.trans ?_ (List.sublist_append_right _ _)))) rfl rfl rfl ?_))
        all_goals (first | refine w_pick_t rfl rfl (by (conv => lhs; whnf); first | done | rfl) ?_ | refine w_pick_f rfl rfl (by (conv => lhs; whnf); first | done | rfl) ?_)
        all_goals (refine w_nil ?_)
        all_goals (refine jns (by first | exact (Ag.upd rfl (Ag.upd rfl (Ag.upd rfl (Ag.upd rfl (Ag.upd rfl (Ag.upd rfl (Ag.upd rfl Ag.refl))))))) | exact (by first | ((repeat (first | with_reducible exact Ag.refl | with_reducible exact Ag.ov | (with_reducible refine Ag.upd ?_ ?_; exact rfl) | with_reducible refine Ag.putn ?_ | (with_reducible refine Ag.ovs ?_ ?_; exact rfl))); done) | (repeat (first | exact Ag.refl | exact Ag.ov | (refine Ag.upd ?_ ?_; exact rfl) | refine Ag.putn ?_ | (refine Ag.ovs ?_ ?_; exact rfl))))) (by (conv => lhs; whnf); first | done | rfl) (by first | exact SubL.out | repeat (first | exact List.Sublist.refl _ | exact List.nil_sublist _ | refine .cons_cons _ ?_ | refine .cons _ ?_ | refine List.Sublist.append (List.Sublist.refl _) ?_ | exact List.sublist_append_left _ _ | refine List.Sublist.trans ?_ (List.sublist_append_right _ _))) ?_)
        all_goals (exact congrArg Value.bool (by first | exact decide_eq_decide.2 ⟨fun h => ⟨hg, h⟩, fun h => h.2⟩ | exact (decide_eq_false (fun h => hg h.1)).symm))
      refine tq_n ?_
      refine c_cond_d (by (conv => lhs; whnf); first | done | rfl) (fun hc29 => ?_) (fun hc29 => ?_)
      · obtain ⟨cs, Sp3, hput, hbnd, hW3'⟩ := hqP j (-1) hjlt
        have hW3 := hW3'
        rw [fgs_set (getN hlt) (getN hjlt) (if_pos hc29) (fgs_get (getN hlt))] at hW3
        refine c_region ?_
        refine x_fa rfl (by (conv => lhs; whnf); first | done | rfl) ?_
        refine x_ldo rfl (by (conv => lhs; whnf); first | done | rfl) (by first | exact HasC.out | exact PutC.out | repeat (first | exact .here | apply Has.there | apply Put.there | apply Has.app | apply Put.app)) (by (conv => lhs; whnf); first | done | rfl) ?_
        refine w_mov rfl (by (conv => lhs; whnf); first | done | rfl) ?_
        refine x_ixA rfl (by (conv => lhs; whnf); first | done | rfl) (by (conv => lhs; whnf); first | done | rfl) (hpA (mapIdx_ne (by omega))) (by omega) (by omega) ?_
        refine x_sts rfl (by (conv => lhs; whnf); first | done | rfl) (by (conv => lhs; whnf); first | done | rfl) (rfl) (.there (.there (Put.app (Put.appl (by rw [Nat.mul_one]; exact hput))))) (by simpa using hbnd) ?_
        refine w_nil ?_
        refine bq_n ?_
        refine tq_n ?_
        refine c_region ?_
        refine w_add rfl (by (conv => lhs; whnf); first | done | rfl) (by (conv => lhs; whnf); first | done | rfl) (by omega) ?_
        refine w_mov rfl (by (conv => lhs; whnf); first | done | rfl) ?_
        refine w_nil ?_
        refine tq_n ?_
        exact ⟨(by first | ((repeat (first | with_reducible exact Ag.refl | with_reducible exact Ag.ov | (with_reducible refine Ag.upd ?_ ?_; exact rfl) | with_reducible refine Ag.putn ?_ | (with_reducible refine Ag.ovs ?_ ?_; exact rfl))); done) | (repeat (first | exact Ag.refl | exact Ag.ov | (refine Ag.upd ?_ ?_; exact rfl) | refine Ag.putn ?_ | (refine Ag.ovs ?_ ?_; exact rfl)))), (lo[k]'hlt).pg.length - (j + 1), [(18, .int .i64 ((j + 1 : Nat) : Int))], _, by omega, (by first | exact SubL.out | repeat (first | exact List.Sublist.refl _ | exact List.nil_sublist _ | refine .cons_cons _ ?_ | refine .cons _ ?_ | refine List.Sublist.append (List.Sublist.refl _) ?_ | exact List.sublist_append_left _ _ | refine List.Sublist.trans ?_ (List.sublist_append_right _ _))), (by repeat (first | exact .nil | refine .cons rfl ?_)), ⟨j + 1, Sp3, by omega, hW3, rfl, rfl, rfl⟩⟩
      · have hW3 := hW2
        rw [fgs_skip (getN hlt) (getN hjlt) (if_neg hc29)] at hW3
        obtain ⟨Sp3, hSp3⟩ : ∃ S, S = Sp2 := ⟨_, rfl⟩
        subst hSp3
        refine c_skip ?_
        refine bq_n ?_
        refine tq_n ?_
        refine c_region ?_
        refine w_add rfl (by (conv => lhs; whnf); first | done | rfl) (by (conv => lhs; whnf); first | done | rfl) (by omega) ?_
        refine w_mov rfl (by (conv => lhs; whnf); first | done | rfl) ?_
        refine w_nil ?_
        refine tq_n ?_
        exact ⟨(by first | ((repeat (first | with_reducible exact Ag.refl | with_reducible exact Ag.ov | (with_reducible refine Ag.upd ?_ ?_; exact rfl) | with_reducible refine Ag.putn ?_ | (with_reducible refine Ag.ovs ?_ ?_; exact rfl))); done) | (repeat (first | exact Ag.refl | exact Ag.ov | (refine Ag.upd ?_ ?_; exact rfl) | refine Ag.putn ?_ | (refine Ag.ovs ?_ ?_; exact rfl)))), (lo[k]'hlt).pg.length - (j + 1), [(18, .int .i64 ((j + 1 : Nat) : Int))], _, by omega, (by first | exact SubL.out | repeat (first | exact List.Sublist.refl _ | exact List.nil_sublist _ | refine .cons_cons _ ?_ | refine .cons _ ?_ | refine List.Sublist.append (List.Sublist.refl _) ?_ | exact List.sublist_append_left _ _ | refine List.Sublist.trans ?_ (List.sublist_append_right _ _))), (by repeat (first | exact .nil | refine .cons rfl ?_)), ⟨j + 1, Sp3, by omega, hW3, rfl, rfl, rfl⟩⟩
    · refine c_exit ?_
      refine tq_e ?_
      refine tq_e ?_
      refine bq_e ?_
      refine bq_n ?_
      refine tq_n ?_
      refine c_region ?_
      refine w_add rfl (by (conv => lhs; whnf); first | done | rfl) (by (conv => lhs; whnf); first | done | rfl) (by omega) ?_
      refine w_mov rfl (by (conv => lhs; whnf); first | done | rfl) ?_
      refine w_nil ?_
      refine tq_n ?_
      exact ⟨(by first | ((repeat (first | with_reducible exact Ag.refl | with_reducible exact Ag.ov | (with_reducible refine Ag.upd ?_ ?_; exact rfl) | with_reducible refine Ag.putn ?_ | (with_reducible refine Ag.ovs ?_ ?_; exact rfl))); done) | (repeat (first | exact Ag.refl | exact Ag.ov | (refine Ag.upd ?_ ?_; exact rfl) | refine Ag.putn ?_ | (refine Ag.ovs ?_ ?_; exact rfl)))), lo.length - (k + 1), [(11, .int .i64 ((k + 1 : Nat) : Int))], _, by omega, (by first | exact SubL.out | repeat (first | exact List.Sublist.refl _ | exact List.nil_sublist _ | refine .cons_cons _ ?_ | refine .cons _ ?_ | refine List.Sublist.append (List.Sublist.refl _) ?_ | exact List.sublist_append_left _ _ | refine List.Sublist.trans ?_ (List.sublist_append_right _ _))), (by repeat (first | exact .nil | refine .cons rfl ?_)), ⟨k + 1, Sp2, by omega, by rw [← fgs_row (getN hlt) (show (lo[k]'hlt).pg.length ≤ j by omega)]; exact hW2, rfl, rfl, rfl⟩⟩
  · have hkk : k = lo.length := (by omega)
    subst hkk
    rw [fgs_end] at hW
    refine c_exit ?_
    refine tq_e ?_
    refine tq_e ?_
    refine bq_e ?_
    exact rq_n .nil (by first | exact SubL.out | repeat (first | exact List.Sublist.refl _ | exact List.nil_sublist _ | refine .cons_cons _ ?_ | refine .cons _ ?_ | refine List.Sublist.append (List.Sublist.refl _) ?_ | exact List.sublist_append_left _ _ | refine List.Sublist.trans ?_ (List.sublist_append_right _ _))) (⟨rfl, Sp', rfl, hW⟩)
end
end Go.Proofs.Ytnmhhelcaibdoaa.Pl
