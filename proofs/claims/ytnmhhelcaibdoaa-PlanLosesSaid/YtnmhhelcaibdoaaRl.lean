/- PlanLoses, for every script: whatever is written, in whatever order: where a page is said to stand, there stands what was written last. No condition. -/
import Derived.Test.YtnmhhelcaibdoaaRows
import Derived.WalkKit
import Derived.ProofKit
import Derived.OpenShut
import Derived.ShutString
import Derived.ChangeOld
import Derived.Below
import Derived.SizedLaws
import Derived.Lib.SmallJoins
import Derived.Test.YtnmhhelcaibdoaaQd
namespace Go.Proofs.Ytnmhhelcaibdoaa.planLoses
open Go.ChangeShapes Go.WideShapes Go.ChangeAt Go.RowKit Sl Pl
set_option linter.unusedVariables false
theorem own : ownKnob Try.prog.godebug = none := by kernel_rfl
theorem laidOut : laidOutB Try.prog = true := by kernel_rfl
set_option maxRecDepth 100000 in
theorem lifted (os : Os) (started : os.Started) (H : Type) (enc : TypeId × Value → H) :
    ReturnsInHanded {} Try.checked os 9 .any (Rows.planLosesSpec.pre6 enc Try.prog Try.f9 Rows.planLosesRow.domain false) (Rows.planLosesSpec.post enc Try.prog Try.f9 false true false false) := by
  refine returnsInHanded_of_change_sized (C := Try.checked) own started (by kernel_rfl) Try.func9
    (ChangeSpec.witness6 (enc := enc) (C := Try.checked) false ⟨#[], #[.agg #[.int .u8 0, .int .u8 0, .int .u8 0, .slice none 0 0]], []⟩ 8 (by kernel_rfl) (by kernel_rfl) (by kernel_rfl) (by kernel_rfl)) ?_
  intro W base args ds gs before hval0 hW hcnd hsz0 _
  have hval : ∀ (j : Nat) t v, Try.f9.params[j]? = some t → args[j]? = some v → Value.okWide Try.prog W .any base t v := hval0
  have hW' := hW
  obtain ⟨p, q, hA0, hV, rfl, hfz, hnd⟩ := hW
  have hA : DataW.TrodAll enc Try.prog W 0 (fun _ => true) true Try.f9.params.toList args.toList ds p := hA0
  have hsz : ∀ (j : Nat) t d, Try.f9.params.toList[j]? = some t → ds[j]? = some d → ∀ n ∈ d.weights Try.prog t, n ≤ reachBytes := fun j t d ht hd n hn => by
    have h1 : n ∈ DataW.weightsEach Try.prog (Try.f9.params.toList ++ Rows.planLosesSpec.plain.varTypes Try.prog) (ds ++ gs) :=
      DataW.weights_mem_each (j := j) (by rw [List.getElem?_append_left (List.getElem?_eq_some_iff.1 ht).1]; exact ht) (by rw [List.getElem?_append_left (List.getElem?_eq_some_iff.1 hd).1]; exact hd) n hn
    simpa using List.all_eq_true.1 hsz0 _ h1
  rw [Try.params9] at hA hval hsz
  obtain ⟨v0, vs0, d0, ds0, p0, q0, hargs, rfl, rfl, h0, r0⟩ := trodAll_cons hA
  obtain ⟨rfl, rfl, rfl⟩ := trodAll_nil r0
  obtain rfl : args = #[v0] := by cases args; simp_all
  obtain ⟨rfl, rfl⟩ := trodVars_none hV
  obtain ⟨cs0, rfl, hcs0⟩ := okWide_struct Try.underlying80 (hval 0 80 v0 rfl rfl)
  have k0 := h0
  have lt0 : ∀ x ∈ p0, x.block < W.heap.size := by obtain ⟨m, hm⟩ := k0; exact DataW.trod_lt m _ _ _ hm
  have g0 : Rdg enc Try.prog W 80 cs0.toList := by
    obtain ⟨fuel, hf⟩ := h0
    exact ⟨fuel, _, hf, hsz 0 80 _ rfl rfl⟩
  obtain ⟨a, b, c, v, xs, he, ha, hb, hc, hv, hx⟩ := script_open g0
  obtain rfl : cs0 = #[.int .u8 a, .int .u8 b, .int .u8 c, v] := by rw [← Array.toArray_toList (xs := cs0), he]
  clear hA0 hval0 hsz hsz0
  refine (loses_g ha hb hc hv hx W (Mem.refl W)).mono ?_
  rintro e W' ⟨v, L', rfl, hM, rfl, rfl⟩
  exact ⟨_, rfl, _, _, _, [], _, [], hW', trodAll_mk1 (shut_bool Try.underlying4 _), (trodAll_cons_mk (Below.trod laidOut (by kernel_rfl) (of_decide_eq_true (by kernel_rfl)) k0 hM.below lt0) trodAll_mk0), rfl, hM.below.frame _, fun h => by cases h⟩
theorem over : Rows.planLosesRow.holds Try.pinned (OpenSpec.ofChange Rows.planLosesSpec) :=
  OpenClaim.holds_of_wide 9 Try.f9 rfl rfl rfl rfl rfl rfl rfl ⟨rfl, rfl, rfl, rfl, rfl⟩ rfl rfl rfl rfl rfl (by kernel_rfl) Try.func9 (by kernel_rfl)
    (of_decide_eq_true (by kernel_rfl)) (by unfold Func.isWrapper; first | (rw [if_pos (by decide +kernel)]; kernel_rfl) | (rw [if_neg (by decide +kernel)]; exact ⟨rfl, rfl⟩))
    (fun os started H enc _ => lifted os started H enc)
theorem proved : Rows.PlanLosesSaid := over
#print axioms proved
end Go.Proofs.Ytnmhhelcaibdoaa.planLoses
