/- Three operations that come up in any order; what is taken to the front. -/
import Derived.Test.YtnmhhelcaibdoaaSlO
namespace Go.Proofs.Ytnmhhelcaibdoaa.Sl
open Go Go.RowKit
set_option linter.unusedVariables false
section
variable {P : Program} {n : Nat} {w0 : World} {ops : Array Oper} {Q : Po} {f : Fm} {L A : Own} {Wr : List Nat} {fuel : Nat} {listed : Array Bool}
theorem d_three (i j k : Nat) {o o' o'' : Oper} (hi : ops[i]? = some o) (hj : ops[j]? = some o') (hk : ops[k]? = some o'') (hr : Region.ready .any ops listed = [i, j, k])
    (h1 : One P n w0 ops o f L (fun f' L' => (A.Sublist L' ∨ offB (listed.setIfInBounds i true) Wr = false) ∧ WD P n w0 ops Q A Wr fuel (listed.setIfInBounds i true) f' L'))
    (h2 : One P n w0 ops o' f L (fun f' L' => (A.Sublist L' ∨ offB (listed.setIfInBounds j true) Wr = false) ∧ WD P n w0 ops Q A Wr fuel (listed.setIfInBounds j true) f' L'))
    (h3 : One P n w0 ops o'' f L (fun f' L' => (A.Sublist L' ∨ offB (listed.setIfInBounds k true) Wr = false) ∧ WD P n w0 ops Q A Wr fuel (listed.setIfInBounds k true) f' L')) : WD P n w0 ops Q A Wr (fuel + 1) listed f L := by
  intro ds a w ha hM
  refine ⟨fun h0 => (by rw [hr] at h0; cases h0), fun m hm => ?_⟩
  rw [hr] at hm
  rcases (by simpa using hm : m = i ∨ m = j ∨ m = k) with rfl | rfl | rfl
  · exact one_op hi h1 ds a w ha hM
  · exact one_op hj h2 ds a w ha hM
  · exact one_op hk h3 ds a w ha hM
end
theorem pm2 {L X1 X2 X3 S : Own} (a b : Nat) {o1 o2 : Obj} [h1 : TakC L a o1 X1] [h2 : TakC X1 b o2 X2] [h3 : TakS X2 S X3] : L.Perm ((a, o1) :: (b, o2) :: (S ++ X3)) :=
  h1.out.trans (List.Perm.cons _ (h2.out.trans (List.Perm.cons _ h3.out)))
theorem pm3 {L X1 X2 X3 X4 S : Own} (a b c : Nat) {o1 o2 o3 : Obj} [h1 : TakC L a o1 X1] [h2 : TakC X1 b o2 X2] [h3 : TakC X2 c o3 X3] [h4 : TakS X3 S X4] : L.Perm ((a, o1) :: (b, o2) :: (c, o3) :: (S ++ X4)) :=
  h1.out.trans (List.Perm.cons _ (pm2 b c))
theorem pm4 {L X1 X2 X3 X4 X5 S : Own} (a b c d : Nat) {o1 o2 o3 o4 : Obj} [h1 : TakC L a o1 X1] [h2 : TakC X1 b o2 X2] [h3 : TakC X2 c o3 X3] [h4 : TakC X3 d o4 X4] [h5 : TakS X4 S X5] : L.Perm ((a, o1) :: (b, o2) :: (c, o3) :: (d, o4) :: (S ++ X5)) :=
  h1.out.trans (List.Perm.cons _ (pm3 b c d))
end Go.Proofs.Ytnmhhelcaibdoaa.Sl
