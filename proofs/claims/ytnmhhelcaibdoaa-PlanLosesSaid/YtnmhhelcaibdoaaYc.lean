/- Plain laws: what is wanted can be done, and brings the write nearer. -/
import Derived.Test.YtnmhhelcaibdoaaYb
namespace Go.Proofs.Ytnmhhelcaibdoaa.Pl
open Go Go.RowKit Sl
set_option linter.unusedVariables false
set_option linter.unusedSimpArgs false
abbrev own (t : Tb) (p : Int) : Prop := (0 ≤ t.sp ∧ t.sl = p / t.P) ∧ t.su = p % t.P
theorem fnn_some : ∀ {l : List Int} {x : Int}, fnn l = some x → x ∈ l ∧ 0 ≤ x
  | y :: l, x, h => by
    unfold fnn at h
    split at h
    · injection h with h; subst h; exact ⟨List.mem_cons_self, by assumption⟩
    · have := fnn_some h; exact ⟨List.mem_cons_of_mem _ this.1, this.2⟩
theorem fnn_none : ∀ {l : List Int}, fnn l = none → ∀ x ∈ l, ¬ 0 ≤ x
  | [], _, x, hx => by cases hx
  | y :: l, h, x, hx => by
    unfold fnn at h
    split at h
    · cases h
    · rcases List.mem_cons.1 hx with rfl | hx
      · assumption
      · exact fnn_none h x hx
inductive WC (t : Tb) (p : Int) : Prop
  | putS (h : own t p) (hw : wantP t p = (1, p / t.P))
  | openS (h0 : p % t.P = 0) (hs : t.sp < 0) (hw : wantP t p = (3, p / t.P))
  | full (h0 : p % t.P = 0) (hs : 0 ≤ t.sp) (hl : lgd t = true) (hw : wantP t p = (7, t.sl))
  | part {k : Int} (h0 : p % t.P = 0) (hs : 0 ≤ t.sp) (hl : lgd t = false) (hk : k = 6 ∨ k = 5) (hw : wantP t p = (k, t.sl))
  | room (h0 : p % t.P ≠ 0) (ho : ¬ own t p) (hr : room t) (hw : wantP t p = (2, 0))
  | openR (h0 : p % t.P ≠ 0) (ho : ¬ own t p) (hr : ¬ room t) (hk : (t.lo.length : Int) < t.K) (hw : wantP t p = (4, 0))
  | vict {x : Int} (h0 : p % t.P ≠ 0) (ho : ¬ own t p) (hr : ¬ room t) (hk : ¬ (t.lo.length : Int) < t.K) (hx : x ∈ hdPg t) (hx0 : 0 ≤ x) (hw : wantP t p = (8, x / t.P))
  | drop (h0 : p % t.P ≠ 0) (ho : ¬ own t p) (hr : ¬ room t) (hk : ¬ (t.lo.length : Int) < t.K) (hx : ∀ x ∈ hdPg t, ¬ 0 ≤ x) (hw : wantP t p = (9, 0))
theorem wc (t : Tb) (p : Int) : WC t p := by
  by_cases h0 : p % t.P = 0
  · have hw : wantP t p = wantS t (p / t.P) := if_pos h0
    unfold wantS at hw
    by_cases h1 : t.sp < 0
    · exact .openS h0 h1 (by rw [hw, if_pos h1])
    · rw [if_neg h1] at hw
      by_cases h2 : t.sl = p / t.P ∧ t.su = 0
      · exact .putS ⟨⟨by omega, h2.1⟩, by omega⟩ (by rw [hw, if_pos h2])
      · rw [if_neg h2] at hw
        by_cases h3 : lgd t = true
        · exact .full h0 (by omega) h3 (by rw [hw, if_pos h3])
        · rw [if_neg h3] at hw
          have h3' : lgd t = false := by simpa using h3
          by_cases h4 : t.su < t.P
          · exact .part h0 (by omega) h3' (.inl rfl) (by rw [hw, if_pos h4])
          · exact .part h0 (by omega) h3' (.inr rfl) (by rw [hw, if_neg h4])
  · by_cases ho : own t p
    · exact .putS ho (by unfold wantP; rw [if_neg h0, if_pos ho])
    · have hw : wantP t p = wantR t := by unfold wantP; rw [if_neg h0, if_neg ho]
      unfold wantR at hw
      by_cases h1 : room t
      · exact .room h0 ho h1 (by rw [hw, if_pos h1])
      · rw [if_neg h1] at hw
        by_cases h2 : (t.lo.length : Int) < t.K
        · exact .openR h0 ho h1 h2 (by rw [hw, if_pos h2])
        · rw [if_neg h2] at hw
          cases hf : fnn (t.lo.headD ⟨0, []⟩).pg with
          | none => exact .drop h0 ho h1 h2 (fnn_none hf) (by rw [hw, hf]; rfl)
          | some x => exact .vict h0 ho h1 h2 (fnn_some hf).1 (fnn_some hf).2 (by rw [hw, hf]; rfl)
/-- How many steps it takes till the page is written. -/
noncomputable def mu (t : Tb) (p : Int) : Nat := if (wantP t p).1 = 1 ∨ (wantP t p).1 = 2 then 1 else if p % t.P = 0 then (if t.sp < 0 then 2 else 3) else if (t.lo.length : Int) < t.K then 2 else 3 + (nn (hdPg t)).length
theorem mu_pos {t : Tb} {p : Int} : 1 ≤ mu t p := by unfold mu; split <;> (try split) <;> (try split) <;> omega
theorem hd_mem {t : Tb} {x : Int} (h : x ∈ hdPg t) : ∃ l, t.lo[0]? = some l ∧ x ∈ l.pg := by
  unfold hdPg at h
  cases hlo : t.lo with
  | nil => rw [hlo] at h; cases h
  | cons l r => rw [hlo] at h; exact ⟨l, rfl, h⟩
theorem hd_len {t : Tb} (h : Lists t) : ((hdPg t).length : Int) ≤ t.P := by
  unfold hdPg
  cases hlo : t.lo with
  | nil => simp; have := h.1.1.1; omega
  | cons l r => exact (h.2.1 0 l (by rw [hlo]; rfl)).1.1
theorem mu_le {t : Tb} {p : Int} (h : Lists t) : (mu t p : Int) ≤ t.P + 3 := by
  have h1 := hd_len h
  have h2 := nn_len (hdPg t)
  have hP := h.1.1.1
  unfold mu; split <;> (try split) <;> (try split) <;> omega
theorem mu_le2 {t : Tb} {p : Int} (h0 : p % t.P ≠ 0) (h : (t.lo.length : Int) < t.K) : mu t p ≤ 2 := by
  unfold mu; rw [if_neg h0, if_pos h]; split <;> omega
theorem mu_one {t : Tb} {p b : Int} {k : Int} (hw : wantP t p = (k, b)) (hk : k = 1 ∨ k = 2) : mu t p = 1 := by
  unfold mu; rw [hw, if_pos hk]
theorem mu_own {t : Tb} {p : Int} (h : own t p) : mu t p = 1 := by
  cases wc t p with
  | putS _ hw => exact mu_one hw (.inl rfl)
  | openS _ hs _ => omega
  | full h0 hs _ hw =>
    have : wantP t p = (1, p / t.P) := by unfold wantP wantS; rw [if_pos h0, if_neg (by omega), if_pos ⟨h.1.2, by omega⟩]
    exact mu_one this (.inl rfl)
  | part h0 hs _ _ hw =>
    have : wantP t p = (1, p / t.P) := by unfold wantP wantS; rw [if_pos h0, if_neg (by omega), if_pos ⟨h.1.2, by omega⟩]
    exact mu_one this (.inl rfl)
  | room _ ho _ _ => exact absurd h ho
  | openR _ ho _ _ _ => exact absurd h ho
  | vict _ ho _ _ _ _ _ => exact absurd h ho
  | drop _ ho _ _ _ _ => exact absurd h ho
theorem mu_openS {t : Tb} {p : Int} (h0 : p % t.P = 0) (hs : t.sp < 0) : mu t p ≤ 2 := by
  unfold mu; rw [if_pos h0, if_pos hs]; split <;> omega
theorem mu_room {t : Tb} {p : Int} (h0 : p % t.P ≠ 0) (ho : ¬ own t p) (hr : room t) : mu t p = 1 := by
  have : wantP t p = (2, 0) := by unfold wantP wantR; rw [if_neg h0, if_neg ho, if_pos hr]
  exact mu_one this (.inr rfl)
theorem nn_fq {φ : Int → Bool} : ∀ l : List Int, nn (l.map (fq φ)) = (nn l).filter fun x => !φ x
  | [] => rfl
  | x :: l => by
    have ih := nn_fq (φ := φ) l
    unfold nn at ih ⊢
    rw [List.map_cons, List.filter_cons, List.filter_cons, ih]
    unfold fq
    by_cases h0 : 0 ≤ x
    · cases hφ : φ x <;> simp [h0, hφ, List.filter_cons]
    · simp [h0]
theorem can_of {t : Tb} {p : Int} (hm : May t) (hp : inB t p) : Can t (wantP t p).1 (wantP t p).2 p := by
  have hP : 4 ≤ t.P := hm.1.1.1.1.1
  have hH := hm.1.1.2.2.1
  have hsu : (t.sp = -1 ∧ t.sl = 0 ∧ t.su = 0) ∨ ((0 ≤ t.sp ∧ t.sp ≤ 255) ∧ (0 ≤ t.sl ∧ t.sl ≤ t.G - 1) ∧ 0 ≤ t.su ∧ t.su ≤ t.P) := hm.1.2.2
  have hbd : ∀ x : Int, 0 ≤ x → x ≤ t.G * t.P - 1 → 0 ≤ x / t.P ∧ x / t.P ≤ t.G - 1 := fun x h0 h1 => by
    have := Int.ediv_nonneg h0 (show 0 ≤ t.P by omega)
    have : x / t.P < t.G := Int.ediv_lt_of_lt_mul (by omega) (by omega)
    omega
  have hput : ∀ k, put t k p = putA t k p := fun k => by unfold put; simp only [if_pos hm, if_pos hp]
  have hfd : ∀ b, 0 ≤ b → b ≤ t.G - 1 → ∀ n, frsh t n → ∃ t' l, folded t b n = .inr (t', l) := fun b h0 h1 n hn => ⟨_, _, by unfold folded; simp only [if_pos hm]; exact if_pos ⟨⟨h0, h1⟩, hn⟩⟩
  have nx : ∀ {P : Prop} {k : Int} {m : Int}, k = m → (k = m → False) → P := fun h1 h2 => (h2 h1).elim
  cases wc t p with
  | putS h hw =>
    rw [hw]
    exact ⟨by omega, fun _ => ⟨_, _, _, (hput 1).trans (if_pos ⟨⟨⟨rfl, h.1.1⟩, h.1.2⟩, h.2⟩)⟩, fun h => by omega, fun h => by omega, fun h => by omega, fun h => by omega⟩
  | openS h0 hs hw =>
    rw [hw]
    refine ⟨by omega, fun h => by omega, fun _ n hn => ⟨{ t with sp := n, sl := p / t.P, su := 0 }, ?_⟩, fun h => by omega, fun h => by omega, fun h => by omega⟩
    have hb := hbd p hp.1 (by omega)
    unfold opn; simp only [if_pos hm, if_pos hn]
    exact if_pos ⟨⟨rfl, hs⟩, hb⟩
  | full h0 hs hl hw =>
    rw [hw]
    exact ⟨by omega, fun h => by omega, fun h => by omega, fun h => by omega, fun _ => hfd t.sl (by omega) (by omega), fun h => by omega⟩
  | part h0 hs hl hk hw =>
    rw [hw]
    refine ⟨by omega, fun h => by omega, fun h => by omega, fun _ => ⟨setT t t.sl t.sp, goneL t (setT t t.sl t.sp), ?_⟩, fun h => by omega, fun h => by omega⟩
    unfold switched; simp only [if_pos hm]
    exact if_neg (fun h => h.elim (fun h => by omega) (fun h => by rw [hl] at h; cases h))
  | room h0 ho hr hw =>
    rw [hw]
    exact ⟨by omega, fun _ => ⟨_, _, _, (hput 2).trans ((if_neg (fun h => by have := h.1.1.1; omega)).trans (if_pos ⟨rfl, hr⟩))⟩, fun h => by omega, fun h => by omega, fun h => by omega, fun h => by omega⟩
  | openR h0 ho hr hk hw =>
    rw [hw]
    refine ⟨by omega, fun h => by omega, fun _ n hn => ⟨{ t with lo := t.lo ++ [⟨n, []⟩] }, ?_⟩, fun h => by omega, fun h => by omega, fun h => by omega⟩
    unfold opn; simp only [if_pos hm, if_pos hn]
    exact (if_neg (fun h => by have := h.1.1; omega)).trans (if_pos ⟨⟨rfl, hk⟩, hr⟩)
  | vict h0 ho hr hk hx hx0 hw =>
    rw [hw]
    obtain ⟨l, hl, hxl⟩ := hd_mem hx
    have hb := hbd _ hx0 ((hm.1.2.1 0 l hl).2.2 _ hxl).2
    exact ⟨by omega, fun h => by omega, fun h => by omega, fun h => by omega, fun _ => hfd _ hb.1 hb.2, fun h => by omega⟩
  | drop h0 ho hr hk hx hw =>
    rw [hw]
    refine ⟨by omega, fun h => by omega, fun h => by omega, fun h => by omega, fun h => by omega, fun _ => ⟨{ t with lo := t.lo.tail }, (t.lo.headD ⟨0, []⟩).ph, ?_⟩⟩
    unfold drop1; simp only [if_pos hm]
    refine if_neg (fun h => ?_)
    have hK := hm.1.1.1.2.2
    rcases h with h | h
    · omega
    · obtain ⟨x, h1, h2⟩ := List.any_eq_true.1 h
      exact hx x h1 (of_decide_eq_true h2)
theorem mu_dec {t t' : Tb} {p : Int} {φ φ1 : Fl} {gl : List Int} (hm : May t) (hp : inB t p) (h : Mrg t φ (wantP t p).1 (wantP t p).2 t' φ1 gl) : mu t' p < mu t p := by
  have hP : 4 ≤ t.P := hm.1.1.1.1.1
  have hK := hm.1.1.2.2.2
  have hset : ∀ {b n : Int}, 0 ≤ t.sp → t.sl = b → (setT t b n).sp = -1 := fun h1 h2 => if_pos ⟨h1, h2⟩
  cases wc t p with
  | putS _ hw =>
    rw [hw] at h
    cases h with
    | opn hk _ _ => omega
    | sw hk _ => omega
    | fd hk _ _ => omega
    | dr hk _ => omega
  | room _ _ _ hw =>
    rw [hw] at h
    cases h with
    | opn hk _ _ => omega
    | sw hk _ => omega
    | fd hk _ _ => omega
    | dr hk _ => omega
  | openS h0 hs hw =>
    have hmu : mu t p = 2 := by unfold mu; rw [hw, if_neg (by omega), if_pos h0, if_pos hs]
    rw [hw] at h
    cases h with
    | opn hk hn h =>
      rename_i n
      unfold opn at h
      simp only [if_pos hm, if_pos hn] at h
      unfold opnA at h
      split at h
      · injection h with h
        subst h
        rw [hmu, mu_own (t := { t with sp := n, sl := p / t.P, su := 0 }) ⟨⟨hn.1.1, rfl⟩, h0.symm⟩]
        decide
      · split at h
        · rename_i h'; have := h'.1.1; omega
        · cases h
    | sw hk _ => omega
    | fd hk _ _ => omega
    | dr hk _ => omega
  | full h0 hs hl hw =>
    have hmu : mu t p = 3 := by unfold mu; rw [hw, if_neg (by omega), if_pos h0, if_neg (by omega)]
    rw [hw] at h
    cases h with
    | opn hk _ _ => omega
    | sw hk _ => omega
    | fd hk hn h =>
      rename_i n
      obtain ⟨_, _, _, rfl, _⟩ := folded_of h
      have := mu_openS (t := setT t t.sl n) (p := p) h0 (by rw [hset hs rfl]; decide)
      rw [hmu]; exact Nat.lt_of_le_of_lt this (by decide)
    | dr hk _ => omega
  | part h0 hs hl hk hw =>
    have hmu : mu t p = 3 := by unfold mu; rw [hw, if_neg (by omega), if_pos h0, if_neg (by omega)]
    rw [hw] at h
    cases h with
    | opn hk _ _ => omega
    | sw hk h =>
      obtain ⟨_, _, _, _, rfl, _⟩ := switched_of h
      have := mu_openS (t := setT t t.sl t.sp) (p := p) h0 (by rw [hset hs rfl]; decide)
      rw [hmu]; exact Nat.lt_of_le_of_lt this (by decide)
    | fd hk _ _ => omega
    | dr hk _ => omega
  | openR h0 ho hr hk hw =>
    have hmu : mu t p = 2 := by unfold mu; rw [hw, if_neg (by omega), if_neg h0, if_pos hk]
    rw [hw] at h
    cases h with
    | opn hk' hn h =>
      rename_i n
      unfold opn at h
      simp only [if_pos hm, if_pos hn] at h
      unfold opnA at h
      split at h
      · rename_i h'; have := h'.1.1; omega
      · split at h
        · injection h with h
          subst h
          have hr' : room { t with lo := t.lo ++ [⟨n, []⟩] } := by
            have hl : 0 < (t.lo ++ [(⟨n, []⟩ : Lg)]).length := by simp
            refine ⟨hl, ?_⟩
            rw [lastN_of (t := { t with lo := t.lo ++ [⟨n, []⟩] }) hl]
            simp
            omega
          rw [hmu, mu_room (t := { t with lo := t.lo ++ [⟨n, []⟩] }) h0 ho hr']
          decide
        · cases h
    | sw hk _ => omega
    | fd hk _ _ => omega
    | dr hk _ => omega
  | vict h0 ho hr hk hx hx0 hw =>
    rename_i x
    have hmu : mu t p = 3 + (nn (hdPg t)).length := by unfold mu; rw [hw, if_neg (by omega), if_neg h0, if_neg hk]
    rw [hw] at h
    cases h with
    | opn hk _ _ => omega
    | sw hk _ => omega
    | fd hk' hn h =>
      rename_i n
      obtain ⟨_, _, _, rfl, _⟩ := folded_of h
      have hhd : hdPg (setT t (x / t.P) n) = (hdPg t).map (fq (inBk t.P (x / t.P))) := by
        unfold hdPg setT fgt
        cases t.lo <;> simp
      have hlt : (nn (hdPg (setT t (x / t.P) n))).length < (nn (hdPg t)).length := by
        rw [hhd, nn_fq]
        exact List.length_filter_lt_length_iff_exists.2 ⟨x, mem_nn.2 ⟨hx, hx0⟩, by simp [inBk]⟩
      have ho' : ¬ own (setT t (x / t.P) n) p := by
        intro ho'
        by_cases hc : 0 ≤ t.sp ∧ t.sl = x / t.P
        · have e : (setT t (x / t.P) n).sp = -1 := if_pos hc
          have := ho'.1.1; omega
        · have e1 : (setT t (x / t.P) n).sp = t.sp := if_neg hc
          have e2 : (setT t (x / t.P) n).sl = t.sl := if_neg hc
          have e3 : (setT t (x / t.P) n).su = t.su := if_neg hc
          exact ho (by unfold own at ho' ⊢; rw [e1, e2, e3] at ho'; exact ho')
      have hr' : ¬ room (setT t (x / t.P) n) := fun h => hr ((room_fgt (φ := inBk t.P (x / t.P)) (t := t)).1 h)
      have hle : mu (setT t (x / t.P) n) p ≤ 3 + (nn (hdPg (setT t (x / t.P) n))).length := by
        have h0' : p % (setT t (x / t.P) n).P ≠ 0 := h0
        unfold mu; rw [if_neg h0']; split <;> (try split) <;> omega
      show mu (setT t (x / t.P) n) p < _
      omega
    | dr hk _ => omega
  | drop h0 ho hr hk hx hw =>
    have hmu : mu t p = 3 + (nn (hdPg t)).length := by unfold mu; rw [hw, if_neg (by omega), if_neg h0, if_neg hk]
    rw [hw] at h
    cases h with
    | opn hk _ _ => omega
    | sw hk _ => omega
    | fd hk _ _ => omega
    | dr hk' h =>
      obtain ⟨e1, _, hnd⟩ := drop_eq h
      have hl : 0 < t.lo.length := by
        rcases Nat.eq_zero_or_pos t.lo.length with h' | h'
        · exact absurd (.inl h') hnd
        · exact h'
      have := mu_le2 (t := t') (p := p) (by rw [e1]; exact h0) (by rw [e1]; show ((t.lo.tail.length : Nat) : Int) < t.K; rw [List.length_tail]; omega)
      omega
end Go.Proofs.Ytnmhhelcaibdoaa.Pl
