/- Arguments opened: what cells that read as data are: numbers, truths, structs, slices. -/
import Derived.Test.YtnmhhelcaibdoaaSl6
import Derived.ChangeArms
import Derived.ChangeOld
import Derived.SizedLaws
namespace Go.Proofs.Ytnmhhelcaibdoaa.Sl
open Go Go.RowKit
set_option linter.unusedVariables false
set_option linter.unusedSimpArgs false
section
variable {H : Type} {enc : TypeId × Value → H} {P : Program} {w : World}
/-- Cells that read as data of type t, each string, slice and map of them within the form's reach. -/
def Rdg (enc : TypeId × Value → H) (P : Program) (w : World) (t : TypeId) (cs : List Value) : Prop := ∃ fuel x, DataW.trod enc P w 0 (fun _ => true) true fuel t cs = some x ∧ ∀ n ∈ x.1.weights P t, n ≤ reachBytes
theorem Rdg.int {t : TypeId} {k : IntKind} {cs : List Value} (h : Rdg enc P w t cs) (hu : P.underlying t = some (.int k)) : ∃ n, cs = [.int k n] ∧ (Lit.int k n).wf = true := by
  obtain ⟨fuel, x, h, _⟩ := h
  obtain ⟨n, h1, _, h2⟩ := DataW.trod_int hu h
  exact ⟨n, h1, h2⟩
theorem Rdg.bool {t : TypeId} {cs : List Value} (h : Rdg enc P w t cs) (hu : P.underlying t = some .bool) : ∃ b, cs = [.bool b] := by
  obtain ⟨fuel, x, h, _⟩ := h
  obtain ⟨n, h1, _⟩ := DataW.trod_bool hu h
  exact ⟨n, h1⟩
theorem Rdg.field {t : TypeId} {fs : Array Field} {cs : List Value} (h : Rdg enc P w t cs) (hu : P.underlying t = some (.struct fs)) {i : Nat} {f : Field} (hf : fs[i]? = some f) : Rdg enc P w f.type ((cs.drop f.offset).take (P.cellsOf f.type)) := by
  obtain ⟨fuel, x, h, hw⟩ := h
  obtain ⟨xs, n, rfl, rfl, hl, hxl, hx⟩ := DataW.trod_struct hu h
  have hi : i < xs.length := by
    have := (Array.getElem?_eq_some_iff.1 hf).1; omega
  have h1 := hx i f hf
  rw [List.getElem?_eq_getElem hi] at h1
  refine ⟨n, xs[i], h1, fun m hm => hw m ?_⟩
  simp only [DataW.weights, hu]
  refine DataW.weights_mem_each (j := i) (t := f.type) (d := (xs[i]).1) ?_ ?_ m hm
  · rw [List.getElem?_map]; simp [hf]
  · rw [List.getElem?_map, List.getElem?_eq_getElem hi]; rfl
theorem Rdg.fieldAt {t T o m : Nat} {fs : Array Field} {cs : List Value} (h : Rdg enc P w t cs) (hu : P.underlying t = some (.struct fs)) {i : Nat} {f : Field} (hf : fs[i]? = some f) (ht : f.type = T) (ho : f.offset = o) (hc : P.cellsOf T = m) : Rdg enc P w T ((cs.drop o).take m) := by
  subst ht; subst ho; subst hc; exact h.field hu hf
theorem Rdg.len {t : TypeId} {fs : Array Field} {cs : List Value} (h : Rdg enc P w t cs) (hu : P.underlying t = some (.struct fs)) : cs.length = P.cellsOf t := by
  obtain ⟨fuel, x, h, hw⟩ := h
  obtain ⟨xs, n, _, _, hl, _⟩ := DataW.trod_struct hu h
  exact hl
theorem weightsAll_mem {e : TypeId} : ∀ {l : List (DataW H)} {d : DataW H}, d ∈ l → ∀ n ∈ d.weights P e, n ∈ DataW.weightsAll P e l
  | d :: l, _, .head _, n, hn => by simp only [DataW.weightsAll, List.mem_append]; exact .inl hn
  | d :: l, x, .tail _ hx, n, hn => by simp only [DataW.weightsAll, List.mem_append]; exact .inr (weightsAll_mem hx n hn)
theorem Rdg.slice {t e : TypeId} {cs : List Value} (h : Rdg enc P w t cs) (hu : P.underlying t = some (.slice e)) : ∃ A len cap, cs = [.slice A len cap] ∧ len ≤ cap ∧ len * P.bytesOf e ≤ reachBytes ∧ (A = none → len = 0) ∧
    ∀ a, A = some a → ∀ i, i < len → ∃ cs', w.cells? 0 (a.add (i * P.cellsOf e)) (P.cellsOf e) = some cs' ∧ Rdg enc P w e cs' := by
  obtain ⟨fuel, x, h, hw⟩ := h
  rcases DataW.trod_slice hu h with ⟨rfl, rfl⟩ | ⟨a, len, cap, elems, rest, n, rfl, rfl, rfl, hb, hlc, hm, hel, hx, _, _⟩
  · exact ⟨none, 0, 0, rfl, Nat.le_refl _, by simp, fun _ => rfl, fun a ha => (by cases ha)⟩
  · refine ⟨some a, len, cap, rfl, hlc, ?_, (fun h => by cases h), fun a' ha i hi => ?_⟩
    · have := hw ((elems.length + rest.length) * P.bytesOf e) (by simp [DataW.weights, hu])
      exact Nat.le_trans (Nat.mul_le_mul_right _ (by omega)) this
    · cases ha
      have h1 := hx i hi
      rw [List.getElem?_eq_getElem (by omega)] at h1
      obtain ⟨cs', h2, h3⟩ := Option.bind_eq_some_iff.1 h1
      refine ⟨cs', h2, n, _, h3, fun m hm => hw m ?_⟩
      simp only [DataW.weights, hu, List.mem_cons, List.mem_append]
      refine .inr (.inl (weightsAll_mem (d := (elems[i]'(by omega)).1) ?_ m hm))
      exact List.mem_map.2 ⟨_, List.getElem_mem _, rfl⟩
theorem flat_inv {α : Type} {ec : α → List Value} {s : Nat} (he : ∀ x, (ec x).length = s) : ∀ (xs : List α) (k : Nat) (c : Value), (xs.flatMap ec)[k]? = some c → ∃ i j x, xs[i]? = some x ∧ j < s ∧ (ec x)[j]? = some c ∧ k = i * s + j
  | [], k, c, h => by simp at h
  | y :: ys, k, c, h => by
    rw [List.flatMap_cons] at h
    by_cases hk : k < (ec y).length
    · rw [List.getElem?_append_left hk] at h
      exact ⟨0, k, y, rfl, by rw [← he y]; exact hk, h, by omega⟩
    · rw [List.getElem?_append_right (by omega)] at h
      obtain ⟨i, j, x, h1, h2, h3, h4⟩ := flat_inv he ys _ c h
      refine ⟨i + 1, j, x, by simpa using h1, h2, h3, ?_⟩
      have := he y
      rw [Nat.succ_mul]; omega
/-- A slice, each element read by what the element's type says. -/
theorem Rdg.slr {α : Type} {ec : α → List Value} {G : α → Prop} {t e s : Nat} {cs : List Value} (h : Rdg enc P w t cs) (hu : P.underlying t = some (.slice e)) (hs : P.cellsOf e = s) (hs0 : 0 < s) (hb : 0 < P.bytesOf e) (he : ∀ x, (ec x).length = s)
    (hE : ∀ cs', Rdg enc P w e cs' → ∃ x, ec x = cs' ∧ G x) : ∃ v xs, cs = [v] ∧ SlR w [] ec v xs ∧ (∀ x ∈ xs, G x) ∧ xs.length ≤ reachBytes := by
  obtain ⟨A, len, cap, rfl, hlc, hw, hn, hx⟩ := h.slice hu
  have hlen : len ≤ reachBytes := Nat.le_trans (Nat.le_mul_of_pos_right _ hb) hw
  cases A with
  | none =>
    have := hn rfl; subst this
    exact ⟨_, [], rfl, ⟨none, cap, rfl, hlc, by simp, fun h => absurd rfl h, fun i c hc => by simp at hc⟩, (fun x hx => by cases hx), by simp⟩
  | some a =>
    have hx := hx a rfl
    have hch : ∀ i : Fin len, ∃ x : α, w.cells? 0 (a.add (i.1 * s)) s = some (ec x) ∧ G x := fun i => by
      obtain ⟨cs', h1, h2⟩ := hx i.1 i.2
      obtain ⟨x, h3, h4⟩ := hE cs' h2
      rw [hs] at h1
      exact ⟨x, by rw [h3]; exact h1, h4⟩
    obtain ⟨g, hg⟩ := Classical.axiomOfChoice hch
    have hcell : ∀ (i : Nat) (hi : i < len) (j : Nat) (c : Value), j < s → (ec (g ⟨i, hi⟩))[j]? = some c → w.cell? ((a.add (i * s)).add j) = some c := fun i hi j c hj hc => by
      obtain ⟨_, _, h3⟩ := World.cells?_some (hg ⟨i, hi⟩).1
      rw [h3 j hj]; exact hc
    refine ⟨_, List.ofFn g, rfl, ⟨some a, cap, by simp, by simpa using hlc, by have : reachBytes < 2 ^ 47 := reachBytes_lt; simp; omega, fun hne => ?_, fun k c hk => ?_⟩, fun x hx => ?_, by simpa using hlen⟩
    · have h0 : 0 < len := by
        rcases Nat.eq_zero_or_pos len with h | h
        · subst h; simp at hne
        · exact h
      have hl0 : 0 < (ec (g ⟨0, h0⟩)).length := by rw [he]; exact hs0
      have := hcell 0 h0 0 _ hs0 (List.getElem?_eq_getElem hl0)
      rw [Nat.zero_mul] at this
      have e1 : ∀ b : Addr, b.add 0 = b := fun b => rfl
      rw [e1, e1] at this
      have hsp : a.spot = none := by
        unfold World.cell? at this
        split at this
        · split at this
          · cases this
          · rename_i hh; simpa using hh
        · cases this
      show some a = some ⟨a.block, a.off, none⟩
      rw [← hsp]
    · obtain ⟨i, j, x, h1, h2, h3, h4⟩ := flat_inv he _ k c hk
      have hi : i < len := by have := (List.getElem?_eq_some_iff.1 h1).1; simpa using this
      have hgx : g ⟨i, hi⟩ = x := by rw [List.getElem?_ofFn] at h1; simpa [hi] using h1
      have := hcell i hi j c h2 (by rw [hgx]; exact h3)
      have hsp : a.spot = none ∨ (i * s = 0 ∧ j = 0) := by
        by_cases h : i * s = 0 ∧ j = 0
        · exact .inr h
        · exact .inl (by
            have h0 := hcell 0 (by omega) 0 _ hs0 (List.getElem?_eq_getElem (by rw [he]; exact hs0))
            rw [Nat.zero_mul] at h0
            have e1 : ∀ b : Addr, b.add 0 = b := fun b => rfl
            rw [e1, e1] at h0
            unfold World.cell? at h0
            split at h0
            · split at h0
              · cases h0
              · rename_i hh; simpa using hh
            · cases h0)
      have hsp0 : a.spot = none := by
        have h0 := hcell 0 (by omega) 0 _ hs0 (List.getElem?_eq_getElem (by rw [he]; exact hs0))
        rw [Nat.zero_mul] at h0
        have e1 : ∀ b : Addr, b.add 0 = b := fun b => rfl
        rw [e1, e1] at h0
        unfold World.cell? at h0
        split at h0
        · split at h0
          · cases h0
          · rename_i hh; simpa using hh
        · cases h0
      refine Rd.of_base ?_
      have ea : a = ⟨a.block, a.off, none⟩ := by rw [← hsp0]
      rw [ea, addr_add, addr_add] at this
      show w.cell? ⟨a.block, a.off + k, none⟩ = some c
      rw [h4, ← Nat.add_assoc]; exact this
    · obtain ⟨i, rfl⟩ := List.mem_ofFn.1 hx
      exact (hg i).2
end
end Go.Proofs.Ytnmhhelcaibdoaa.Sl
