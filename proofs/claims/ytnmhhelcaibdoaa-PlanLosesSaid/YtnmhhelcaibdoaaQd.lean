/- Scripts that come in as arguments. -/
import Derived.Test.YtnmhhelcaibdoaaQb
import Derived.Test.YtnmhhelcaibdoaaYf
namespace Go.Proofs.Ytnmhhelcaibdoaa.Pl
open Go Go.RowKit Sl
set_option linter.unusedVariables false
set_option linter.unusedSimpArgs false
theorem list4 {α : Type} {cs : List α} (h : cs.length = 4) : ∃ c0 c1 c2 c3, cs = [c0, c1, c2, c3] := by
  match cs, h with
  | [c0, c1, c2, c3], _ => exact ⟨_, _, _, _, rfl⟩
section
variable {H : Type} {enc : TypeId × Value → H} {w : World}
theorem c1_5 : Try.prog.cellsOf 5 = 1 := by kernel_rfl
theorem c1_83 : Try.prog.cellsOf 83 = 1 := by kernel_rfl
theorem c1_78 : Try.prog.cellsOf 78 = 1 := by kernel_rfl
theorem c4_80 : Try.prog.cellsOf 80 = 4 := by kernel_rfl
theorem by_83 : 0 < Try.prog.bytesOf 83 := of_decide_eq_true (by kernel_rfl)
theorem byte_open {c : Value} (h : Rdg enc Try.prog w 5 [c]) : ∃ n, c = .int .u8 n ∧ 0 ≤ n ∧ n ≤ 255 := by
  obtain ⟨n, e, hw⟩ := h.int Try.underlying5
  cases e
  refine ⟨n, rfl, ?_⟩
  simp [Lit.wf, IntKind.min, IntKind.max, IntKind.bits, IntKind.signed] at hw
  omega
theorem words_open {cs : List Value} (h : Rdg enc Try.prog w 78 cs) : ∃ v xs, cs = [v] ∧ SlR w [] encU v xs ∧ ∀ x ∈ xs, 0 ≤ x ∧ x ≤ 65535 := by
  obtain ⟨v, xs, h1, h2, h3, _⟩ := h.slr (ec := encU) (G := fun x => 0 ≤ x ∧ x ≤ 65535) Try.underlying78 c1_83 (by decide) by_83 (fun x => rfl) (fun cs' h' => by
    obtain ⟨n, rfl, hw⟩ := h'.int Try.underlying83
    refine ⟨n, rfl, ?_⟩
    simp [Lit.wf, IntKind.min, IntKind.max, IntKind.bits, IntKind.signed] at hw
    omega)
  exact ⟨v, xs, h1, h2, h3⟩
theorem script_open {cs : List Value} (h : Rdg enc Try.prog w 80 cs) : ∃ a b c v xs, cs = [.int .u8 a, .int .u8 b, .int .u8 c, v] ∧ (0 ≤ a ∧ a ≤ 255) ∧ (0 ≤ b ∧ b ≤ 255) ∧ (0 ≤ c ∧ c ≤ 255) ∧ SlR w [] encU v xs ∧ ∀ x ∈ xs, 0 ≤ x ∧ x ≤ 65535 := by
  have hl := h.len Try.underlying80
  rw [c4_80] at hl
  obtain ⟨c0, c1, c2, c3, rfl⟩ := list4 hl
  have f0 : Rdg enc Try.prog w 5 [c0] := h.fieldAt Try.underlying80 (i := 0) rfl rfl rfl c1_5
  have f1 : Rdg enc Try.prog w 5 [c1] := h.fieldAt Try.underlying80 (i := 1) rfl rfl rfl c1_5
  have f2 : Rdg enc Try.prog w 5 [c2] := h.fieldAt Try.underlying80 (i := 2) rfl rfl rfl c1_5
  have f3 : Rdg enc Try.prog w 78 [c3] := h.fieldAt Try.underlying80 (i := 3) rfl rfl rfl c1_78
  obtain ⟨a, rfl, ha⟩ := byte_open f0
  obtain ⟨b, rfl, hb⟩ := byte_open f1
  obtain ⟨c, rfl, hc⟩ := byte_open f2
  obtain ⟨v, xs, e, hv, hx⟩ := words_open f3
  cases e
  exact ⟨a, b, c, _, xs, rfl, ha, hb, hc, hv, hx⟩
end
end Go.Proofs.Ytnmhhelcaibdoaa.Pl
