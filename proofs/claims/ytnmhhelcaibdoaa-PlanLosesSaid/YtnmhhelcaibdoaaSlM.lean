/- Maps keyed by a struct of whole numbers. -/
import Derived.Test.YtnmhhelcaibdoaaSlR
namespace Go.Proofs.Ytnmhhelcaibdoaa.Sl
open Go Go.RowKit
set_option linter.unusedVariables false
set_option linter.unusedSimpArgs false
abbrev kv (k : Int × Int) : Value := .agg #[.int .i64 k.1, .int .i64 k.2]
def fset (φ : Int × Int → Option Int) (a : Int × Int) (x : Option Int) : Int × Int → Option Int := fun k => if k = a then x else φ k
/-- The entries are the finite map φ. -/
structure PM (es : List MapEntry) (clk : Nat) (φ : Int × Int → Option Int) : Prop where
  keys : ∀ e ∈ es, ∃ k v, e.key = kv k ∧ e.val = .int .i64 v ∧ φ k = some v
  apart : es.Pairwise (fun a b => a.key ≠ b.key)
  all : ∀ k v, φ k = some v → ∃ e ∈ es, e.key = kv k
  born : es.Pairwise (fun a b => a.born ≠ b.born)
  young : ∀ e ∈ es, e.born < clk
theorem PM.nil : PM [] 0 (fun _ => none) := ⟨by simp, .nil, fun k v h => by simp at h, .nil, by simp⟩
theorem kv_inj {a b : Int × Int} (h : kv a = kv b) : a = b := by
  obtain ⟨a1, a2⟩ := a
  obtain ⟨b1, b2⟩ := b
  simp [kv] at h
  exact Prod.ext h.1 h.2
theorem PM.push {es : List MapEntry} {clk : Nat} {φ : Int × Int → Option Int} (h : PM es clk φ) {a : Int × Int} {v : Int} (hn : ∀ e ∈ es, e.key ≠ kv a) : PM (es ++ [{ key := kv a, val := .int .i64 v, born := clk }]) (clk + 1) (fset φ a (some v)) where
  keys e he := by
    rcases List.mem_append.1 he with he | he
    · obtain ⟨k, v', h1, h2, h3⟩ := h.keys e he
      refine ⟨k, v', h1, h2, ?_⟩
      unfold fset
      rw [if_neg (fun e' => hn e he (by rw [h1, e'])), h3]
    · rw [List.mem_singleton.1 he]
      exact ⟨a, v, rfl, rfl, by simp [fset]⟩
  apart := List.pairwise_append.2 ⟨h.apart, by simp, fun x hx y hy => by rw [List.mem_singleton.1 hy]; exact hn x hx⟩
  all k v' hk := by
    unfold fset at hk
    by_cases hka : k = a
    · exact ⟨_, List.mem_append_right _ (List.mem_singleton.2 rfl), by rw [hka]⟩
    · rw [if_neg hka] at hk
      obtain ⟨e, he, h1⟩ := h.all k v' hk
      exact ⟨e, List.mem_append_left _ he, h1⟩
  born := List.pairwise_append.2 ⟨h.born, by simp, fun x hx y hy => by rw [List.mem_singleton.1 hy]; have := h.young x hx; show x.born ≠ clk; omega⟩
  young e he := by
    rcases List.mem_append.1 he with he | he
    · have := h.young e he; omega
    · rw [List.mem_singleton.1 he]; exact Nat.lt_succ_self _
theorem pw_get {α : Type} {R : α → α → Prop} {l : List α} (h : l.Pairwise R) (hs : ∀ a b, R a b → R b a) {i j : Nat} {x y : α} (hx : l[i]? = some x) (hy : l[j]? = some y) (hij : i ≠ j) : R x y := by
  obtain ⟨hi, rfl⟩ := List.getElem?_eq_some_iff.1 hx
  obtain ⟨hj, rfl⟩ := List.getElem?_eq_some_iff.1 hy
  rcases Nat.lt_or_gt_of_ne hij with h1 | h1
  · exact List.pairwise_iff_getElem.1 h i j hi hj h1
  · exact hs _ _ (List.pairwise_iff_getElem.1 h j i hj hi h1)
theorem PM.put {es : List MapEntry} {clk : Nat} {φ : Int × Int → Option Int} (h : PM es clk φ) {a : Int × Int} {v : Int} {j : Nat} {e : MapEntry} (hj : es[j]? = some e) (hk : e.key = kv a) {e' : MapEntry} (he : e' = { key := kv a, val := .int .i64 v, born := e.born }) : PM (es.set j e') clk (fset φ a (some v)) := by
  subst he
  obtain ⟨hl, hje⟩ := List.getElem?_eq_some_iff.1 hj
  have hm : ∀ x ∈ es.set j { key := kv a, val := .int .i64 v, born := e.born }, x = { key := kv a, val := .int .i64 v, born := e.born } ∨ (x ∈ es ∧ x.key ≠ kv a) := fun x hx => by
    obtain ⟨i, hi, rfl⟩ := List.mem_iff_getElem.1 hx
    rw [List.getElem_set]
    by_cases hij : j = i
    · left; rw [if_pos hij]
    · right; rw [if_neg hij]
      have hi2 : i < es.length := by simpa using hi
      exact ⟨List.getElem_mem hi2, fun e2 => pw_get h.apart (fun _ _ => Ne.symm) hj (List.getElem?_eq_getElem hi2) hij (hk.trans e2.symm)⟩
  have pw : ∀ {β : Type} (f : MapEntry → β), f { key := kv a, val := .int .i64 v, born := e.born } = f e → es.Pairwise (fun a b => f a ≠ f b) → (es.set j { key := kv a, val := .int .i64 v, born := e.born }).Pairwise (fun a b => f a ≠ f b) := fun f hf hp => by
    rw [← List.pairwise_map (f := f) (R := fun x y => x ≠ y)] at hp ⊢
    rw [List.map_set, hf, show (es.map f).set j (f e) = es.map f by
      apply List.ext_getElem
      · simp
      · intro i h1 h2
        rw [List.getElem_set]
        split
        · rename_i hij; subst hij; simp [hje]
        · rfl]
    exact hp
  refine ⟨fun x hx => ?_, pw MapEntry.key hk.symm h.apart, fun k v' hkv => ?_, pw MapEntry.born rfl h.born, fun x hx => ?_⟩
  · rcases hm x hx with rfl | ⟨h1, h2⟩
    · exact ⟨a, v, rfl, rfl, by simp [fset]⟩
    · obtain ⟨k, v', g1, g2, g3⟩ := h.keys x h1
      exact ⟨k, v', g1, g2, by unfold fset; rw [if_neg (fun e2 => h2 (by rw [g1, e2])), g3]⟩
  · by_cases hka : k = a
    · exact ⟨_, List.mem_iff_getElem.2 ⟨j, by simpa using hl, by rw [List.getElem_set, if_pos rfl]⟩, by rw [hka]⟩
    · unfold fset at hkv
      rw [if_neg hka] at hkv
      obtain ⟨x, hx, g1⟩ := h.all k v' hkv
      obtain ⟨i, hi, rfl⟩ := List.mem_iff_getElem.1 hx
      have hij : ¬ j = i := fun e2 => by subst e2; exact hka (kv_inj (g1.symm.trans (by rw [hje]; exact hk)))
      exact ⟨_, List.mem_iff_getElem.2 ⟨i, by simpa using hi, by rw [List.getElem_set, if_neg hij]⟩, g1⟩
  · rcases hm x hx with rfl | ⟨h1, h2⟩
    · exact h.young e (List.mem_of_getElem? hj)
    · exact h.young x h1
theorem PM.drop {es : List MapEntry} {clk : Nat} {φ : Int × Int → Option Int} (h : PM es clk φ) {a : Int × Int} {j : Nat} {e : MapEntry} (hj : es[j]? = some e) (hk : e.key = kv a) : PM (es.eraseIdx j) clk (fset φ a none) := by
  have hs : (es.eraseIdx j).Sublist es := List.eraseIdx_sublist _ _
  have hm : ∀ x ∈ es.eraseIdx j, x ∈ es ∧ x.key ≠ kv a := fun x hx => by
    obtain ⟨i, hij, hi⟩ := List.mem_eraseIdx_iff_getElem?.1 hx
    exact ⟨List.mem_of_getElem? hi, fun e2 => pw_get h.apart (fun _ _ => Ne.symm) hj hi (Ne.symm hij) (hk.trans e2.symm)⟩
  refine ⟨fun x hx => ?_, h.apart.sublist hs, fun k v' hkv => ?_, h.born.sublist hs, fun x hx => h.young x (hs.subset hx)⟩
  · obtain ⟨h1, h2⟩ := hm x hx
    obtain ⟨k, v', g1, g2, g3⟩ := h.keys x h1
    exact ⟨k, v', g1, g2, by unfold fset; rw [if_neg (fun e2 => h2 (by rw [g1, e2])), g3]⟩
  · unfold fset at hkv
    by_cases hka : k = a
    · rw [if_pos hka] at hkv; cases hkv
    · rw [if_neg hka] at hkv
      obtain ⟨x, hx, g1⟩ := h.all k v' hkv
      obtain ⟨i, hi⟩ := List.mem_iff_getElem?.1 hx
      refine ⟨x, List.mem_eraseIdx_iff_getElem?.2 ⟨i, fun e2 => ?_, hi⟩, g1⟩
      subst e2
      rw [hj] at hi; cases hi
      exact hka (kv_inj (g1.symm.trans hk))
theorem PM.same {es : List MapEntry} {clk : Nat} {φ : Int × Int → Option Int} (h : PM es clk φ) {a : Int × Int} (hn : ∀ e ∈ es, e.key ≠ kv a) : PM es clk (fset φ a none) := by
  have e : fset φ a none = φ := by
    funext k
    unfold fset
    split
    · rename_i hk; subst hk
      cases hφ : φ k with
      | none => rfl
      | some v => obtain ⟨e, he, h1⟩ := h.all k v hφ; exact absurd h1 (hn e he)
    · rfl
  rw [e]; exact h
theorem fset_fset {φ : Int × Int → Option Int} {a : Int × Int} {x y : Option Int} : fset (fset φ a x) a y = fset φ a y := by
  funext k; unfold fset; split <;> rfl
end Go.Proofs.Ytnmhhelcaibdoaa.Sl
