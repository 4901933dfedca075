/- Tables and Fours that come in as arguments. -/
import Derived.Test.YtnmhhelcaibdoaaQa
import Derived.Test.YtnmhhelcaibdoaaPt
namespace Go.Proofs.Ytnmhhelcaibdoaa.Pl
open Go Go.RowKit Sl
set_option linter.unusedVariables false
set_option linter.unusedSimpArgs false
theorem list9 {α : Type} {cs : List α} (h : cs.length = 9) : ∃ c0 c1 c2 c3 c4 c5 c6 c7 c8, cs = [c0, c1, c2, c3, c4, c5, c6, c7, c8] := by
  match cs, h with
  | [c0, c1, c2, c3, c4, c5, c6, c7, c8], _ => exact ⟨_, _, _, _, _, _, _, _, _, rfl⟩
theorem list2 {α : Type} {cs : List α} (h : cs.length = 2) : ∃ c0 c1, cs = [c0, c1] := by
  match cs, h with
  | [c0, c1], _ => exact ⟨_, _, rfl⟩
theorem list3 {α : Type} {cs : List α} (h : cs.length = 3) : ∃ c0 c1 c2, cs = [c0, c1, c2] := by
  match cs, h with
  | [c0, c1, c2], _ => exact ⟨_, _, _, rfl⟩
theorem list13 {α : Type} {cs : List α} (h : cs.length = 13) : ∃ c0 c1 c2 c3 c4 c5 c6 c7 c8 d0 d1 d2 d3, cs = [c0, c1, c2, c3, c4, c5, c6, c7, c8, d0, d1, d2, d3] := by
  match cs, h with
  | [c0, c1, c2, c3, c4, c5, c6, c7, c8, d0, d1, d2, d3], _ => exact ⟨_, _, _, _, _, _, _, _, _, _, _, _, _, rfl⟩
section
variable {H : Type} {enc : TypeId × Value → H} {w : World}
theorem c1_3 : Try.prog.cellsOf 3 = 1 := by kernel_rfl
theorem c1_4 : Try.prog.cellsOf 4 = 1 := by kernel_rfl
theorem c1_37 : Try.prog.cellsOf 37 = 1 := by kernel_rfl
theorem c1_38 : Try.prog.cellsOf 38 = 1 := by kernel_rfl
theorem c1_41 : Try.prog.cellsOf 41 = 1 := by kernel_rfl
theorem c3_40 : Try.prog.cellsOf 40 = 3 := by kernel_rfl
theorem c9_43 : Try.prog.cellsOf 43 = 9 := by kernel_rfl
theorem c2_45 : Try.prog.cellsOf 45 = 2 := by kernel_rfl
theorem c2_102 : Try.prog.cellsOf 102 = 2 := by kernel_rfl
theorem c13_59 : Try.prog.cellsOf 59 = 13 := by kernel_rfl
theorem by_3 : 0 < Try.prog.bytesOf 3 := of_decide_eq_true (by kernel_rfl)
theorem by_4 : 0 < Try.prog.bytesOf 4 := of_decide_eq_true (by kernel_rfl)
theorem by_102 : 0 < Try.prog.bytesOf 102 := of_decide_eq_true (by kernel_rfl)
theorem ints_open {cs : List Value} (h : Rdg enc Try.prog w 37 cs) : ∃ v xs, cs = [v] ∧ IL w [] v xs := by
  obtain ⟨v, xs, h1, h2, _⟩ := h.slr (ec := Sl.encI) (G := fun _ => True) Try.underlying37 c1_3 (by decide) by_3 (fun x => rfl) (fun cs' h' => by
    obtain ⟨n, rfl, _⟩ := h'.int Try.underlying3
    exact ⟨n, rfl, trivial⟩)
  exact ⟨v, xs, h1, h2⟩
theorem bools_open {cs : List Value} (h : Rdg enc Try.prog w 38 cs) : ∃ v xs, cs = [v] ∧ BL w [] v xs := by
  obtain ⟨v, xs, h1, h2, _⟩ := h.slr (ec := Sl.encB) (G := fun _ => True) Try.underlying38 c1_4 (by decide) by_4 (fun x => rfl) (fun cs' h' => by
    obtain ⟨n, rfl⟩ := h'.bool Try.underlying4
    exact ⟨n, rfl, trivial⟩)
  exact ⟨v, xs, h1, h2⟩
theorem logs_open {cs : List Value} (h : Rdg enc Try.prog w 41 cs) : ∃ v lo, cs = [v] ∧ LogR w [] v lo := by
  obtain ⟨v, lv, h1, h2, h3, _⟩ := h.slr (ec := encL) (G := fun x => ∃ pg, IL w [] x.2 pg) Try.underlying41 c2_102 (by decide) by_102 (fun x => rfl) (fun cs' h' => by
    have hl := h'.len Try.underlying102
    rw [c2_102] at hl
    obtain ⟨c0, c1, rfl⟩ := list2 hl
    have f0 : Rdg enc Try.prog w 3 [c0] := h'.fieldAt Try.underlying102 (i := 0) rfl rfl rfl c1_3
    have f1 : Rdg enc Try.prog w 37 [c1] := h'.fieldAt Try.underlying102 (i := 1) rfl rfl rfl c1_37
    obtain ⟨n, e0, _⟩ := f0.int Try.underlying3
    obtain ⟨v, xs, e1, hx⟩ := ints_open f1
    cases e0; cases e1
    exact ⟨(n, c1), rfl, xs, hx⟩)
  have hch : ∀ i : Fin lv.length, ∃ pg, IL w [] (lv[i.1]).2 pg := fun i => h3 _ (List.getElem_mem i.2)
  obtain ⟨g, hg⟩ := Classical.axiomOfChoice hch
  refine ⟨v, List.ofFn fun i : Fin lv.length => ⟨(lv[i.1]).1, g i⟩, h1, lv, h2, by simp, fun i x l hx hl => ?_⟩
  have hi : i < lv.length := (List.getElem?_eq_some_iff.1 hx).1
  rw [List.getElem?_eq_getElem hi] at hx
  rw [List.getElem?_ofFn, dif_pos hi] at hl
  cases hx; cases hl
  exact ⟨rfl, hg ⟨i, hi⟩⟩
theorem tab_open {cs : List Value} (h : Rdg enc Try.prog w 43 cs) : ∃ t Ad cd Ah ch Al cl, cs = cT t Ad cd Ah ch Al cl ∧ TabR w [] (.agg cs.toArray) t := by
  have hl := h.len Try.underlying43
  rw [c9_43] at hl
  obtain ⟨c0, c1, c2, c3, c4, c5, c6, c7, c8, rfl⟩ := list9 hl
  have f0 : Rdg enc Try.prog w 3 [c0] := h.fieldAt Try.underlying43 (i := 0) rfl rfl rfl c1_3
  have f1 : Rdg enc Try.prog w 3 [c1] := h.fieldAt Try.underlying43 (i := 1) rfl rfl rfl c1_3
  have f2 : Rdg enc Try.prog w 3 [c2] := h.fieldAt Try.underlying43 (i := 2) rfl rfl rfl c1_3
  have f3 : Rdg enc Try.prog w 37 [c3] := h.fieldAt Try.underlying43 (i := 3) rfl rfl rfl c1_37
  have f4 : Rdg enc Try.prog w 38 [c4] := h.fieldAt Try.underlying43 (i := 4) rfl rfl rfl c1_38
  have f5 : Rdg enc Try.prog w 40 [c5, c6, c7] := h.fieldAt Try.underlying43 (i := 5) rfl rfl rfl c3_40
  have f6 : Rdg enc Try.prog w 41 [c8] := h.fieldAt Try.underlying43 (i := 6) rfl rfl rfl c1_41
  have s0 : Rdg enc Try.prog w 3 [c5] := f5.fieldAt Try.underlying40 (i := 0) rfl rfl rfl c1_3
  have s1 : Rdg enc Try.prog w 3 [c6] := f5.fieldAt Try.underlying40 (i := 1) rfl rfl rfl c1_3
  have s2 : Rdg enc Try.prog w 3 [c7] := f5.fieldAt Try.underlying40 (i := 2) rfl rfl rfl c1_3
  obtain ⟨P, e0, _⟩ := f0.int Try.underlying3
  obtain ⟨G, e1, _⟩ := f1.int Try.underlying3
  obtain ⟨K, e2, _⟩ := f2.int Try.underlying3
  obtain ⟨vd, da, e3, hd⟩ := ints_open f3
  obtain ⟨vh, ha, e4, hh⟩ := bools_open f4
  obtain ⟨sp, e5, _⟩ := s0.int Try.underlying3
  obtain ⟨sl, e6, _⟩ := s1.int Try.underlying3
  obtain ⟨su, e7, _⟩ := s2.int Try.underlying3
  obtain ⟨vl, lo, e8, hlo⟩ := logs_open f6
  cases e0; cases e1; cases e2; cases e3; cases e4; cases e5; cases e6; cases e7; cases e8
  have hT : TabR w [] (.agg #[.int .i64 P, .int .i64 G, .int .i64 K, c3, c4, .int .i64 sp, .int .i64 sl, .int .i64 su, c8]) ⟨P, G, K, da, ha, sp, sl, su, lo⟩ := ⟨_, _, _, rfl, hd, hh, hlo⟩
  obtain ⟨Ad, cd, Ah, ch, Al, cl, he⟩ := hT.form
  refine ⟨⟨P, G, K, da, ha, sp, sl, su, lo⟩, Ad, cd, Ah, ch, Al, cl, ?_, hT⟩
  injection he with he
  exact congrArg Array.toList he
theorem int_open {c : Value} (h : Rdg enc Try.prog w 3 [c]) : ∃ n, c = .int .i64 n ∧ -9223372036854775808 ≤ n ∧ n ≤ 9223372036854775807 := by
  obtain ⟨n, e, hw⟩ := h.int Try.underlying3
  cases e
  refine ⟨n, rfl, ?_⟩
  simp [Lit.wf, IntKind.min, IntKind.max, IntKind.bits, IntKind.signed] at hw
  omega
theorem four_open {cs : List Value} (h : Rdg enc Try.prog w 59 cs) : ∃ t Ad cd Ah ch Al cl k b n ph, cs = cT t Ad cd Ah ch Al cl ++ [.int .i64 k, .int .i64 b, .int .i64 n, .int .i64 ph] ∧ TabR w [] (.agg (cT t Ad cd Ah ch Al cl).toArray) t ∧ n ≤ 9223372036854775807 := by
  have hl := h.len Try.underlying59
  rw [c13_59] at hl
  obtain ⟨c0, c1, c2, c3, c4, c5, c6, c7, c8, d0, d1, d2, d3, rfl⟩ := list13 hl
  have f0 : Rdg enc Try.prog w 43 [c0, c1, c2, c3, c4, c5, c6, c7, c8] := h.fieldAt Try.underlying59 (i := 0) rfl rfl rfl c9_43
  have f1 : Rdg enc Try.prog w 45 [d0, d1] := h.fieldAt Try.underlying59 (i := 1) rfl rfl rfl c2_45
  have f2 : Rdg enc Try.prog w 3 [d2] := h.fieldAt Try.underlying59 (i := 2) rfl rfl rfl c1_3
  have f3 : Rdg enc Try.prog w 3 [d3] := h.fieldAt Try.underlying59 (i := 3) rfl rfl rfl c1_3
  have s0 : Rdg enc Try.prog w 3 [d0] := f1.fieldAt Try.underlying45 (i := 0) rfl rfl rfl c1_3
  have s1 : Rdg enc Try.prog w 3 [d1] := f1.fieldAt Try.underlying45 (i := 1) rfl rfl rfl c1_3
  obtain ⟨t, Ad, cd, Ah, ch, Al, cl, e, hT⟩ := tab_open f0
  obtain ⟨k, rfl, _⟩ := int_open s0
  obtain ⟨b, rfl, _⟩ := int_open s1
  obtain ⟨n, rfl, hn1, hn⟩ := int_open f2
  obtain ⟨ph, rfl, _⟩ := int_open f3
  refine ⟨t, Ad, cd, Ah, ch, Al, cl, k, b, n, ph, ?_, by rw [← e]; exact hT, hn⟩
  rw [← e]; rfl
end
end Go.Proofs.Ytnmhhelcaibdoaa.Pl
