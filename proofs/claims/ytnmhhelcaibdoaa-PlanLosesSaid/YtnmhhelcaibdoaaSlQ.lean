/- Least of two, remainders of any kind, a look into a map that is known. -/
import Derived.Test.YtnmhhelcaibdoaaSlO
namespace Go.Proofs.Ytnmhhelcaibdoaa.Sl
open Go Go.RowKit
set_option linter.unusedVariables false
set_option linter.unusedSimpArgs false
section
variable {P : Program} {n : Nat} {w0 : World} {q : Mo} {ops : Array Oper} {Q : Po} {rest : List Oper} {f : Fm} {L : Own} {d ty : Nat} {pos : String} {af : Array Edge} {g : Option (Nat × Bool)}
theorem x_min {T T' : Nat} {x y : Operand} {k k' : IntKind} {a b : Int} (c : Int) (hw : Region.wanted ⟨some d, .call { callee := .builtin .min, args := #[x, y], argTypes := #[T, T'] }, ty, pos, af, g⟩ (yieldB f ops) = true) (hx : ev f x = .int k a) (hy : ev f y = .int k' b) (hc : c = if b < a then b else a)
    (kk : W P n w0 .lex ops Q rest (upd n f d (.int k c)) L) : W P n w0 .lex ops Q (⟨some d, .call { callee := .builtin .min, args := #[x, y], argTypes := #[T, T'] }, ty, pos, af, g⟩ :: rest) f L :=
  w_act hw fun w hM => by
    refine ⟨.int k c, L, w, ?_, hM, kk⟩
    simp only [execOp, resolve, invoke, builtin, Sem.run_bind, Sem.run_pure, Result.andThen_ok, List.map_toArray, List.map_cons, List.map_nil, hx, hy, run_min_int2]
    rw [hc]
theorem x_remk {T T' : Nat} {x y : Operand} {k : IntKind} {a b : Int} (hw : Region.wanted ⟨some d, .binOp .rem T x y T', ty, pos, af, g⟩ (yieldB f ops) = true) (hx : ev f x = .int k a) (hy : ev f y = .int k b) (h0 : 0 ≤ a) (hb : 0 < b)
    (kk : W P n w0 q ops Q rest (upd n f d (.int k (a % b))) L) : W P n w0 q ops Q (⟨some d, .binOp .rem T x y T', ty, pos, af, g⟩ :: rest) f L :=
  w_ev hw (v := .int k (a % b)) (fun w _ => by
    have e : a.tmod b = a % b := Int.tmod_eq_emod_of_nonneg h0
    simp [execOp, hx, hy, eqGuard_int, binOp, Op.intDiv, e, show b ≠ 0 by omega]) kk
theorem x_lko {T : Nat} {z : Value} [hT : CMI P T z] {x i : Operand} {b : Nat} {es : Array MapEntry} {clk : Nat} {a : Int} (ov : Option Int) (hz : z = .int .i64 0) (ho : mfind a es.toList = ov.map (Value.int .i64)) (hw : Region.wanted ⟨some d, .lookup T x i true, ty, pos, af, g⟩ (yieldB f ops) = true) (hx : ev f x = .map (some b)) (hi : ev f i = .int .i64 a) (hb : Has L b (.map es clk)) (hk : mkeys es.toList)
    (kk : W P n w0 q ops Q rest (upd n f d (.tuple #[.int .i64 (ov.getD 0), .bool ov.isSome])) L) : W P n w0 q ops Q (⟨some d, .lookup T x i true, ty, pos, af, g⟩ :: rest) f L :=
  x_lkc hw hx hi hb hk (by
    rw [ho, hz]
    cases ov <;> exact kk)
end
end Go.Proofs.Ytnmhhelcaibdoaa.Sl
