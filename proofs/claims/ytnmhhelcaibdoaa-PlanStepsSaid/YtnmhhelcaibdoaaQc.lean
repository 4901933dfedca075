/- Tables and steps that come in as arguments, with what bounds their lists. -/
import Derived.Test.YtnmhhelcaibdoaaQb
namespace Go.Proofs.Ytnmhhelcaibdoaa.Pl
open Go Go.RowKit Sl
set_option linter.unusedVariables false
set_option linter.unusedSimpArgs false
section
variable {H : Type} {enc : TypeId × Value → H} {w : World}
theorem by8_3 : Try.prog.bytesOf 3 = 8 := by kernel_rfl
theorem ints_openB {cs : List Value} (h : Rdg enc Try.prog w 37 cs) : ∃ v xs, cs = [v] ∧ IL w [] v xs ∧ xs.length ≤ 17592186043904 := by
  obtain ⟨v, xs, rfl, h2⟩ := ints_open h
  obtain ⟨A, len, cap, he, _, hb, _⟩ := h.slice Try.underlying37
  obtain ⟨A', c', he', _⟩ := h2.ex
  subst he'
  simp only [List.cons.injEq, Value.slice.injEq, and_true] at he
  refine ⟨_, xs, rfl, h2, ?_⟩
  rw [by8_3] at hb
  have : reachBytes = 140737488351232 := rfl
  omega
theorem logs_openB {cs : List Value} (h : Rdg enc Try.prog w 41 cs) : ∃ v lo, cs = [v] ∧ LogR w [] v lo ∧ ∀ l ∈ lo, l.pg.length ≤ 17592186043904 := by
  obtain ⟨v, lv, h1, h2, h3, _⟩ := h.slr (ec := encL) (G := fun x => ∃ pg, IL w [] x.2 pg ∧ pg.length ≤ 17592186043904) Try.underlying41 c2_102 (by decide) by_102 (fun x => rfl) (fun cs' h' => by
    have hl := h'.len Try.underlying102
    rw [c2_102] at hl
    obtain ⟨c0, c1, rfl⟩ := list2 hl
    have f0 : Rdg enc Try.prog w 3 [c0] := h'.fieldAt Try.underlying102 (i := 0) rfl rfl rfl c1_3
    have f1 : Rdg enc Try.prog w 37 [c1] := h'.fieldAt Try.underlying102 (i := 1) rfl rfl rfl c1_37
    obtain ⟨n, e0, _⟩ := f0.int Try.underlying3
    obtain ⟨v, xs, e1, hx, hb⟩ := ints_openB f1
    cases e0; cases e1
    exact ⟨(n, c1), rfl, xs, hx, hb⟩)
  have hch : ∀ i : Fin lv.length, ∃ pg, IL w [] (lv[i.1]).2 pg ∧ pg.length ≤ 17592186043904 := fun i => h3 _ (List.getElem_mem i.2)
  obtain ⟨g, hg⟩ := Classical.axiomOfChoice hch
  refine ⟨v, List.ofFn fun i : Fin lv.length => ⟨(lv[i.1]).1, g i⟩, h1, ⟨lv, h2, by simp, fun i x l hx hl => ?_⟩, fun l hl => ?_⟩
  · have hi : i < lv.length := (List.getElem?_eq_some_iff.1 hx).1
    rw [List.getElem?_eq_getElem hi] at hx
    rw [List.getElem?_ofFn, dif_pos hi] at hl
    cases hx; cases hl
    exact ⟨rfl, (hg ⟨i, hi⟩).1⟩
  · obtain ⟨i, rfl⟩ := List.mem_ofFn.1 hl
    exact (hg i).2
theorem tab_openB {cs : List Value} (h : Rdg enc Try.prog w 43 cs) : ∃ t Ad cd Ah ch Al cl, cs = cT t Ad cd Ah ch Al cl ∧ TabR w [] (.agg cs.toArray) t ∧ ∀ l ∈ t.lo, l.pg.length ≤ 17592186043904 := by
  have hl := h.len Try.underlying43
  rw [c9_43] at hl
  obtain ⟨c0, c1, c2, c3, c4, c5, c6, c7, c8, rfl⟩ := list9 hl
  have f0 : Rdg enc Try.prog w 3 [c0] := h.fieldAt Try.underlying43 (i := 0) rfl rfl rfl c1_3
  have f1 : Rdg enc Try.prog w 3 [c1] := h.fieldAt Try.underlying43 (i := 1) rfl rfl rfl c1_3
  have f2 : Rdg enc Try.prog w 3 [c2] := h.fieldAt Try.underlying43 (i := 2) rfl rfl rfl c1_3
  have f3 : Rdg enc Try.prog w 37 [c3] := h.fieldAt Try.underlying43 (i := 3) rfl rfl rfl c1_37
  have f4 : Rdg enc Try.prog w 38 [c4] := h.fieldAt Try.underlying43 (i := 4) rfl rfl rfl c1_38
  have f5 : Rdg enc Try.prog w 40 [c5, c6, c7] := h.fieldAt Try.underlying43 (i := 5) rfl rfl rfl c3_40
  have f6 : Rdg enc Try.prog w 41 [c8] := h.fieldAt Try.underlying43 (i := 6) rfl rfl rfl c1_41
  have s0 : Rdg enc Try.prog w 3 [c5] := f5.fieldAt Try.underlying40 (i := 0) rfl rfl rfl c1_3
  have s1 : Rdg enc Try.prog w 3 [c6] := f5.fieldAt Try.underlying40 (i := 1) rfl rfl rfl c1_3
  have s2 : Rdg enc Try.prog w 3 [c7] := f5.fieldAt Try.underlying40 (i := 2) rfl rfl rfl c1_3
  obtain ⟨P, e0, _⟩ := f0.int Try.underlying3
  obtain ⟨G, e1, _⟩ := f1.int Try.underlying3
  obtain ⟨K, e2, _⟩ := f2.int Try.underlying3
  obtain ⟨vd, da, e3, hd⟩ := ints_open f3
  obtain ⟨vh, ha, e4, hh⟩ := bools_open f4
  obtain ⟨sp, e5, _⟩ := s0.int Try.underlying3
  obtain ⟨sl, e6, _⟩ := s1.int Try.underlying3
  obtain ⟨su, e7, _⟩ := s2.int Try.underlying3
  obtain ⟨vl, lo, e8, hlo, hB⟩ := logs_openB f6
  cases e0; cases e1; cases e2; cases e3; cases e4; cases e5; cases e6; cases e7; cases e8
  have hT : TabR w [] (.agg #[.int .i64 P, .int .i64 G, .int .i64 K, c3, c4, .int .i64 sp, .int .i64 sl, .int .i64 su, c8]) ⟨P, G, K, da, ha, sp, sl, su, lo⟩ := ⟨_, _, _, rfl, hd, hh, hlo⟩
  obtain ⟨Ad, cd, Ah, ch, Al, cl, he⟩ := hT.form
  refine ⟨⟨P, G, K, da, ha, sp, sl, su, lo⟩, Ad, cd, Ah, ch, Al, cl, ?_, hT, hB⟩
  injection he with he
  exact congrArg Array.toList he
theorem step_open {cs : List Value} (h : Rdg enc Try.prog w 45 cs) : ∃ k b, cs = [.int .i64 k, .int .i64 b] := by
  have hl := h.len Try.underlying45
  rw [c2_45] at hl
  obtain ⟨d0, d1, rfl⟩ := list2 hl
  have s0 : Rdg enc Try.prog w 3 [d0] := h.fieldAt Try.underlying45 (i := 0) rfl rfl rfl c1_3
  have s1 : Rdg enc Try.prog w 3 [d1] := h.fieldAt Try.underlying45 (i := 1) rfl rfl rfl c1_3
  obtain ⟨k, rfl, _⟩ := int_open s0
  obtain ⟨b, rfl, _⟩ := int_open s1
  exact ⟨k, b, rfl⟩
end
end Go.Proofs.Ytnmhhelcaibdoaa.Pl
