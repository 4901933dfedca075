/- A region that draws its order, and whose ways meet. -/
import Derived.Test.YtnmhhelcaibdoaaSlR
namespace Go.Proofs.Ytnmhhelcaibdoaa.Sl
open Go Go.RowKit
section
variable {P : Program} {n : Nat} {w0 : World} {Q : Po} {f : Fm} {L A : Own}
theorem np_jn {D : List Nat} {d : Nat} {v : Value} : NoPan (Jn D f L d v) := fun c f' L' h => by cases h.1
theorem d_begin_j {id : Nat} {l : List Oper} (hA : A.Sublist L) (Wr : List Nat) (hm : P.follows .mixedOrders = true) (D : List Nat) (d : Nat) (v : Value)
    (h : WD P n w0 l.toArray (Jn D f L d v) A Wr l.length (Array.replicate l.length false) f L) (k : ∀ g, Q .normal (upd n (ov D g f) d v) L) : CW P n w0 (.region id l.toArray true) Q f L :=
  (d_begin_s hA Wr hm h).mono fun e f' L' ⟨h1, h2, h3, h4⟩ => by
    subst h1; subst h4
    have := k f'
    rwa [← h2.eq, upd_self h3] at this
end
end Go.Proofs.Ytnmhhelcaibdoaa.Sl
