/- Plain laws: a step keeps what stands. -/
import Derived.Test.YtnmhhelcaibdoaaYa
namespace Go.Proofs.Ytnmhhelcaibdoaa.Pl
open Go Go.RowKit Sl
set_option linter.unusedVariables false
set_option linter.unusedSimpArgs false
theorem erL_out {k : Int × Int} : ∀ (gl : List Int) (φ : Fl), k.1 ∉ gl → erL φ gl k = φ k
  | [], φ, _ => rfl
  | x :: gl, φ, h => by
    show erL (er φ x 32) gl k = _
    rw [erL_out gl _ (fun h' => h (List.mem_cons_of_mem _ h'))]
    unfold er
    rw [if_neg (fun h' => h (by rw [h'.1]; exact List.mem_cons_self))]
theorem cp1_out {k : Int × Int} {ph : Int} {φ : Fl} {c : Cpy} (h : k ≠ (ph, c.2)) : cp1 ph φ c k = φ k := by
  unfold cp1
  cases φ c.1 with
  | none => rfl
  | some v => show fset φ (ph, c.2) (some v) k = _; unfold fset; rw [if_neg h]
theorem cpF_out {k : Int × Int} {ph : Int} : ∀ (xs : List Cpy) (φ : Fl), (∀ c ∈ xs, k ≠ (ph, c.2)) → cpF φ xs ph k = φ k
  | [], φ, _ => rfl
  | c :: xs, φ, h => by
    show cpF (cp1 ph φ c) xs ph k = _
    rw [cpF_out xs _ (fun c' hc => h c' (List.mem_cons_of_mem _ hc)), cp1_out (h c List.mem_cons_self)]
theorem cpF_in {pl : Int × Int} {o v ph : Int} : ∀ (xs : List Cpy) (φ : Fl), xs.Pairwise (fun c c' => c.2 ≠ c'.2) → pl.1 ≠ ph → (pl, o) ∈ xs → φ pl = some v → cpF φ xs ph (ph, o) = some v
  | c :: xs, φ, hp, hn, hm, hv => by
    show cpF (cp1 ph φ c) xs ph (ph, o) = _
    obtain ⟨h1, h2⟩ := List.pairwise_cons.1 hp
    rcases List.mem_cons.1 hm with e | hm
    · subst e
      rw [cpF_out xs _ (fun c' hc e => h1 c' hc (by injection e)), cp1]
      rw [hv]
      simp [fset]
    · exact cpF_in xs _ h2 hn hm (by rw [cp1_out (fun e => hn (by rw [e]))]; exact hv)
theorem cpL_pw {t : Tb} {b a : Int} : ∀ k : Nat, (cpL t b a (a + k)).Pairwise (fun c c' => c.2 ≠ c'.2)
  | 0 => by rw [show a + ((0 : Nat) : Int) = a by omega, cpL_zero]; exact .nil
  | k + 1 => by
    rw [show a + ((k + 1 : Nat) : Int) = (a + k) + 1 by omega, cpL_succ (by omega), List.pairwise_append]
    refine ⟨cpL_pw k, ?_, fun x hx y hy => ?_⟩
    · cases cpO t b (a + k) <;> simp
    · have h1 := cpL_mem hx
      have h2 : y.2 = a + k := by
        cases h : cpO t b (a + k) with
        | none => rw [h] at hy; cases hy
        | some c =>
          rw [h] at hy
          have hy' : y = c := by simpa using hy
          rw [hy']
          unfold cpO at h
          obtain ⟨p, _, rfl⟩ := Option.map_eq_some_iff.1 h
          rfl
      omega
theorem cpL_pw' {t : Tb} {b a o : Int} (h : a ≤ o) : (cpL t b a o).Pairwise (fun c c' => c.2 ≠ c'.2) := by
  have := cpL_pw (t := t) (b := b) (a := a) (o - a).toNat
  rwa [show a + ((o - a).toNat : Int) = o by omega] at this
/-- A step has kept what stands. -/
structure Keep (t : Tb) (φ : Fl) (t' : Tb) (φ' : Fl) : Prop where
  may : May t'
  P : t'.P = t.P
  G : t'.G = t.G
  K : t'.K = t.K
  ha : t'.ha.length = t.ha.length
  non : ∀ q : Int, 0 ≤ q → q < t.ha.length → whr t q = none → whr t' q = none
  som : ∀ (q : Int) pl, 0 ≤ q → q < t.ha.length → whr t q = some pl → ∃ pl', whr t' q = some pl' ∧ ∀ v, φ pl = some v → φ' pl' = some v
theorem Keep.refl {t : Tb} {φ : Fl} (h : May t) : Keep t φ t φ := ⟨h, rfl, rfl, rfl, rfl, fun _ _ _ h => h, fun q pl _ _ h => ⟨pl, h, fun v h => h⟩⟩
theorem Keep.trans {t1 t2 t3 : Tb} {φ1 φ2 φ3 : Fl} (h : Keep t1 φ1 t2 φ2) (h' : Keep t2 φ2 t3 φ3) : Keep t1 φ1 t3 φ3 :=
  ⟨h'.may, h'.P.trans h.P, h'.G.trans h.G, h'.K.trans h.K, h'.ha.trans h.ha, fun q h0 h1 hq => h'.non q h0 (by rw [h.ha]; exact h1) (h.non q h0 h1 hq), fun q pl h0 h1 hq => by
    obtain ⟨p2, g1, g2⟩ := h.som q pl h0 h1 hq
    obtain ⟨p3, g3, g4⟩ := h'.som q p2 h0 (by rw [h.ha]; exact h1) g1
    exact ⟨p3, g3, fun v hv => g4 v (g2 v hv)⟩⟩
theorem gone_no {t t' : Tb} {x : Int} (h : x ∈ usedL t') : x ∉ goneL t t' := fun hm => by
  unfold goneL at hm
  have := (List.mem_filter.1 hm).2
  unfold memB at this
  have h2 : x ∈ srt (usedL t') := mem_srt.2 h
  simp [h2] at this
theorem set_ha {t : Tb} {b ph : Int} (hm : May t) (hb0 : 0 ≤ b) (hb1 : b ≤ t.G - 1) : (setT t b ph).ha.length = t.ha.length := by
  have hP := hm.1.1.1.1
  have h1 := pg_in hm.1 hb0 hb1 (Int.le_refl 0) (show 0 < t.P by omega)
  have h2 := pg_in hm.1 hb0 hb1 (show 0 ≤ t.P - 1 by omega) (show t.P - 1 < t.P by omega)
  exact ovr_len (by rw [hvF_len]; omega)
theorem keep_set {t : Tb} {φ : Fl} {b ph : Int} {xs : List Cpy} (hm : May t) (hb0 : 0 ≤ b) (hb1 : b ≤ t.G - 1) (hx : May (setT t b ph)) (hs : ∀ c ∈ xs, c.1.1 ≠ ph) (hp : xs.Pairwise (fun c c' => c.2 ≠ c'.2))
    (hin : ∀ (q : Int) pl, 0 ≤ q → q < t.ha.length → q / t.P = b → whr t q = some pl → (pl, q % t.P) ∈ xs ∨ (pl = (ph, q % t.P) ∧ ∀ c ∈ xs, c.2 ≠ q % t.P)) (hout : ∀ (q : Int) pl, 0 ≤ q → q < t.ha.length → q / t.P ≠ b → whr t q = some pl → pl.1 ≠ ph) :
    Keep t φ (setT t b ph) (erL (cpF φ xs ph) (goneL t (setT t b ph))) := by
  have hP : 4 ≤ t.P := hm.1.1.1.1.1
  have hha := set_ha (ph := ph) hm hb0 hb1
  have hi : ∀ q : Int, 0 ≤ q → q / t.P = b → whr (setT t b ph) q = (whr t q).map fun _ => (ph, q % t.P) := fun q h0 hq => by
    have := whr_set_in (ph := ph) hm hb0 hb1 (Int.emod_nonneg q (show t.P ≠ 0 by omega)) (Int.emod_lt_of_pos q (show 0 < t.P by omega))
    rwa [show b * t.P + q % t.P = q by rw [← hq, Int.mul_comm]; exact Int.mul_ediv_add_emod q t.P] at this
  refine ⟨hx, rfl, rfl, rfl, hha, fun q h0 h1 hq => ?_, fun q pl h0 h1 hq => ?_⟩
  · by_cases hqb : q / t.P = b
    · rw [hi q h0 hqb, hq]; rfl
    · rw [whr_set_out hm hb0 hb1 h0 hqb]; exact hq
  · by_cases hqb : q / t.P = b
    · have hw : whr (setT t b ph) q = some (ph, q % t.P) := by rw [hi q h0 hqb, hq]; rfl
      refine ⟨_, hw, fun v hv => ?_⟩
      rw [erL_out _ _ (gone_no (whr_used hx h0 (by rw [hha]; exact h1) hw))]
      rcases hin q pl h0 h1 hqb hq with h2 | ⟨h2, h3⟩
      · exact cpF_in xs φ hp (hs _ h2) h2 hv
      · rw [cpF_out xs φ (fun c hc e => h3 c hc (by injection e with _ e; exact e.symm)), ← h2]; exact hv
    · have hw : whr (setT t b ph) q = some pl := by rw [whr_set_out hm hb0 hb1 h0 hqb]; exact hq
      refine ⟨pl, hw, fun v hv => ?_⟩
      rw [erL_out _ _ (gone_no (whr_used (a := pl.1) (c := pl.2) hx h0 (by rw [hha]; exact h1) hw)), cpF_out xs φ (fun c hc e => hout q pl h0 h1 hqb hq (by rw [e]))]
      exact hv
theorem opn_sizes {t t' : Tb} {k b n : Int} (h : opn t k b n = .inr t') : t'.P = t.P ∧ t'.G = t.G ∧ t'.K = t.K := by
  unfold opn at h
  split at h
  · split at h
    · unfold opnA at h
      split at h
      · injection h with h; subst h; exact ⟨rfl, rfl, rfl⟩
      · split at h
        · injection h with h; subst h; exact ⟨rfl, rfl, rfl⟩
        · cases h
    · cases h
  · cases h
theorem drop_eq {t t' : Tb} {x : Int} (h : drop1 t = .inr (t', x)) : t' = { t with lo := t.lo.tail } ∧ x = (t.lo.headD ⟨0, []⟩).ph ∧ ¬ noDrop t := by
  unfold drop1 at h
  split at h
  · split at h
    · cases h
    · rename_i hn
      injection h with h
      injection h with h1 h2
      exact ⟨h1.symm, h2.symm, hn⟩
  · cases h
theorem keep_mrg {t t' : Tb} {φ φ1 : Fl} {k b : Int} {gl : List Int} (hm : May t) (h : Mrg t φ k b t' φ1 gl) : Keep t φ t' (erL φ1 gl) := by
  have hP : 4 ≤ t.P := hm.1.1.1.1.1
  cases h with
  | opn hk hn h =>
    rename_i n
    obtain ⟨e1, e2, e3⟩ := opn_sizes h
    refine ⟨may_open h, e1, e2, e3, by rw [(open_of h).2], fun q h0 h1 hq => by rw [whr_open h h0]; exact hq, fun q pl h0 h1 hq => ⟨pl, by rw [whr_open h h0]; exact hq, fun v hv => ?_⟩⟩
    show erL φ [n] pl = _
    rw [erL_out _ _ (fun hmem => hn.2 (by rw [← List.mem_singleton.1 hmem]; exact whr_used (a := pl.1) (c := pl.2) hm h0 h1 hq))]
    exact hv
  | sw hk h =>
    obtain ⟨_, ⟨hb0, hb1⟩, hs, hlg, rfl, rfl⟩ := switched_of h
    have hsu : (t.sp = -1 ∧ t.sl = 0 ∧ t.su = 0) ∨ ((0 ≤ t.sp ∧ t.sp ≤ 255) ∧ (0 ≤ t.sl ∧ t.sl ≤ t.G - 1) ∧ 0 ≤ t.su ∧ t.su ≤ t.P) := hm.1.2.2
    have hr : restA t = cpL t t.sl t.su t.P := if_neg (by omega)
    rw [hr]
    have hsrc : ∀ c ∈ cpL t t.sl t.su t.P, c.1.1 ≠ t.sp := fun c hc e => by
      obtain ⟨h1, h2, h3⟩ := cpL_mem hc
      have hpi := pg_in hm.1 hb0 hb1 (show 0 ≤ c.2 by omega) h2
      have hbd := blk_div (P := t.P) (b := t.sl) (o := c.2) (by omega) h2
      have h4 : whr t (t.sl * t.P + c.2) = some (t.sp, c.1.2) := by rw [h3, ← e]
      have := whr_seq_at hm hpi.2.1 hpi.2.2.1 hs h4
      omega
    refine keep_set hm hb0 hb1 (may_switched h) hsrc (cpL_pw' (by omega)) (fun q pl h0 h1 hqb hq => ?_) (fun q pl h0 h1 hqb hq e => ?_)
    · have hm0 := Int.emod_nonneg q (show t.P ≠ 0 by omega)
      have hm1 := Int.emod_lt_of_pos q (show 0 < t.P by omega)
      by_cases ho : t.su ≤ q % t.P
      · left
        refine cpL_has ho hm1 ?_
        rw [← hqb, Int.mul_comm, Int.mul_ediv_add_emod]; exact hq
      · right
        refine ⟨?_, fun c hc e => by have := cpL_mem hc; omega⟩
        have hl : lwhr t.lo q = none := by
          rw [lwhr_none]
          intro l hl hp
          have : lgd t = true := List.any_eq_true.2 ⟨l, hl, List.any_eq_true.2 ⟨q, hp, decide_eq_true ⟨⟨h0, hqb⟩, by omega⟩⟩⟩
          rw [hlg] at this; cases this
        rw [whr_seq hl ⟨hs, hqb.symm, by omega⟩] at hq
        injection hq with hq
        exact hq.symm
    · have h4 : whr t q = some (t.sp, pl.2) := by rw [hq, ← e]
      exact hqb (whr_seq_at hm h0 h1 hs h4).1
  | fd hk hn h =>
    rename_i n
    obtain ⟨_, ⟨hb0, hb1⟩, _, rfl, rfl⟩ := folded_of h
    have hr : foldA t b = cpL t b 0 t.P := if_pos ⟨hb0, hb1⟩
    rw [hr]
    have hsrc : ∀ c ∈ cpL t b 0 t.P, c.1.1 ≠ n := fun c hc e => by
      obtain ⟨h1, h2, h3⟩ := cpL_mem hc
      have hpi := pg_in hm.1 hb0 hb1 h1 h2
      exact hn.2 (by rw [← e]; exact whr_used (a := c.1.1) (c := c.1.2) hm hpi.2.1 hpi.2.2.1 h3)
    refine keep_set hm hb0 hb1 (may_folded h) hsrc (cpL_pw' (by omega)) (fun q pl h0 h1 hqb hq => .inl ?_) (fun q pl h0 h1 hqb hq e => hn.2 (by rw [← e]; exact whr_used (a := pl.1) (c := pl.2) hm h0 h1 hq))
    refine cpL_has (Int.emod_nonneg q (show t.P ≠ 0 by omega)) (Int.emod_lt_of_pos q (show 0 < t.P by omega)) ?_
    rw [← hqb, Int.mul_comm, Int.mul_ediv_add_emod]; exact hq
  | dr hk h =>
    rename_i x
    obtain ⟨e1, e2, e3⟩ := drop_eq h
    have hx := may_drop h
    refine ⟨hx, by rw [e1], by rw [e1], by rw [e1], by rw [e1], fun q h0 h1 hq => by rw [whr_drop h h0]; exact hq, fun q pl h0 h1 hq => ?_⟩
    have hw : whr t' q = some pl := by rw [whr_drop h h0]; exact hq
    refine ⟨pl, hw, fun v hv => ?_⟩
    have hu := whr_used (a := pl.1) (c := pl.2) hx h0 (by rw [e1]; exact h1) hw
    rw [erL_out _ _ (fun hmem => ?_)]
    · exact hv
    · have hpl := List.mem_singleton.1 hmem
      have hl0 : 0 < t.lo.length := by
        rcases Nat.eq_zero_or_pos t.lo.length with h' | h'
        · exact absurd (.inl h') e3
        · exact h'
      have hn := used_nodup hm
      rw [hpl, e2, headD_of hl0] at hu
      cases hlo : t.lo with
      | nil => rw [hlo] at hl0; exact absurd hl0 (by simp)
      | cons l r =>
        have e4 : (t.lo[0]) = l := by simp [hlo]
        rw [e4] at hu
        rw [e1] at hu
        unfold usedL at hu hn
        rw [hlo] at hn
        simp only [hlo, List.tail_cons] at hu
        rw [List.map_cons] at hn
        have hn2 := List.nodup_append.1 hn
        rcases List.mem_append.1 hu with h' | h'
        · exact hn2.2.2 _ h' _ List.mem_cons_self rfl
        · exact (List.nodup_cons.1 hn2.2.1).1 h'
theorem put_sizes {t t' : Tb} {k p a c : Int} (h : put t k p = .inr (t', a, c)) : t'.P = t.P ∧ t'.G = t.G ∧ t'.K = t.K := by
  unfold put at h
  split at h
  · split at h
    · unfold putA at h
      split at h
      · injection h with h; injection h with h _; subst h; exact ⟨rfl, rfl, rfl⟩
      · split at h
        · injection h with h; injection h with h _; subst h; exact ⟨rfl, rfl, rfl⟩
        · cases h
    · cases h
  · cases h
/-- Behind a put the page stands, and all others keep what stands. -/
structure PutK (t : Tb) (φ : Fl) (p v : Int) (t' : Tb) (φ' : Fl) : Prop where
  may : May t'
  P : t'.P = t.P
  G : t'.G = t.G
  K : t'.K = t.K
  ha : t'.ha.length = t.ha.length
  self : ∃ pl, whr t' p = some pl ∧ φ' pl = some v
  non : ∀ q : Int, 0 ≤ q → q < t.ha.length → q ≠ p → whr t q = none → whr t' q = none
  som : ∀ (q : Int) pl, 0 ≤ q → q < t.ha.length → q ≠ p → whr t q = some pl → ∃ pl', whr t' q = some pl' ∧ ∀ v, φ pl = some v → φ' pl' = some v
theorem putk_of {t t' : Tb} {φ : Fl} {k p v a c : Int} (h : put t k p = .inr (t', a, c)) : PutK t φ p v t' (fset φ (a, c) (some v)) := by
  obtain ⟨hm, hp, hha⟩ := put_of h
  obtain ⟨e1, e2, e3⟩ := put_sizes h
  have hs := whr_put_self hm h
  have hx := may_put h
  refine ⟨hx, e1, e2, e3, by rw [hha], ⟨_, hs, by simp [fset]⟩, fun q h0 h1 hqp hq => by rw [whr_put_other hm h h0 hqp]; exact hq, fun q pl h0 h1 hqp hq => ?_⟩
  have hw : whr t' q = some pl := by rw [whr_put_other hm h h0 hqp]; exact hq
  refine ⟨pl, hw, fun v' hv => ?_⟩
  unfold fset
  rw [if_neg (fun e => hqp (whr_inj hx h0 (by rw [hha]; exact h1) hp.1 (by rw [hha]; omega) (by rw [hw, e]) hs))]
  exact hv
theorem PutK.keep {t0 t t' : Tb} {φ0 φ φ' : Fl} {p v : Int} (h : Keep t0 φ0 t φ) (h' : PutK t φ p v t' φ') : PutK t0 φ0 p v t' φ' :=
  ⟨h'.may, h'.P.trans h.P, h'.G.trans h.G, h'.K.trans h.K, h'.ha.trans h.ha, h'.self, fun q h0 h1 hqp hq => h'.non q h0 (by rw [h.ha]; exact h1) hqp (h.non q h0 h1 hq), fun q pl h0 h1 hqp hq => by
    obtain ⟨p2, g1, g2⟩ := h.som q pl h0 h1 hq
    obtain ⟨p3, g3, g4⟩ := h'.som q p2 h0 (by rw [h.ha]; exact h1) hqp g1
    exact ⟨p3, g3, fun v hv => g4 v (g2 v hv)⟩⟩
end Go.Proofs.Ytnmhhelcaibdoaa.Pl
