/- The walk's own calculus, part six: loops and joins by frames that agree outside some slots; slices that are read. -/
import Derived.Test.YtnmhhelcaibdoaaSl5
namespace Go.Proofs.Ytnmhhelcaibdoaa.Sl
open Go Go.RowKit
set_option linter.unusedVariables false
set_option linter.unusedSimpArgs false

def upds (n : Nat) : Fm → List (Nat × Value) → Fm
  | f, [] => f
  | f, (d, v) :: s => upds n (upd n f d v) s
inductive SA (f : Fm) : List (Nat × Value) → Prop
  | nil : SA f []
  | cons {d v s} (h : f d = v) (t : SA f s) : SA f ((d, v) :: s)
theorem upds_self {n : Nat} {f : Fm} : ∀ {s : List (Nat × Value)}, SA f s → upds n f s = f
  | [], _ => rfl
  | (d, v) :: s, .cons h t => by
    simp only [upds]
    rw [upd_self h, upds_self t]
section
variable {P : Program} {n : Nat} {w0 : World} {r : Option Nat} {Q : Po} {f : Fm} {L : Own}
theorem CWI.weak {c : Code} {L' : Own} (h : CWI P n w0 r c Q f L') (hs : L'.Sublist L) : CWI P n w0 r c Q f L := fun ds a w ha hM => h ds a w ha (hM.drop hs)
/-- What a round hands on. -/
def Nx (n : Nat) (D : List Nat) (f : Fm) (I : Nat → List (Nat × Value) → Own → Prop) (m : Nat) (f' : Fm) (L' : Own) : Prop :=
  Ag D f' f ∧ ∃ m' s' L3, m' < m ∧ L3.Sublist L' ∧ SA f' s' ∧ I m' s' L3
theorem c_loop_ov {c : Code} (D : List Nat) (I : Nat → List (Nat × Value) → Own → Prop) (m : Nat) (s : List (Nat × Value)) {L0 : Own} (hs : SA f s) (hL : L0.Sublist L) (h0 : I m s L0)
    (round : ∀ m s L' g, I m s L' → CWI P n w0 r c (thenQ (Nx n D f I m) Q) (upds n (ov D g f) s) L') : CWI P n w0 r (.loop c) Q f L := by
  refine c_loop (fun m f' L' => ∃ g s L3, L3.Sublist L' ∧ f' = upds n (ov D g f) s ∧ I m s L3) m ⟨f, s, L0, hL, ?_, h0⟩ ?_
  · rw [show ov D f f = f from (Ag.refl.eq).symm, upds_self hs]
  · rintro m f' L' ⟨g, s, L3, hsub, rfl, hI⟩
    refine ((round m s L3 g hI).mono (Q' := thenQ (fun f' L' => ∃ m', m' < m ∧ ∃ g s L3, L3.Sublist L' ∧ f' = upds n (ov D g f) s ∧ I m' s L3) Q) ?_).weak hsub
    intro e f2 L2 hq
    cases e <;> try exact hq
    obtain ⟨hA, m', s', L4, h1, h2, h3, h4⟩ := hq
    exact ⟨m', h1, f2, s', L4, h2, by rw [← hA.eq, upds_self h3], h4⟩
/-- What a piece of code hands on to what follows. -/
def Md (D : List Nat) (f : Fm) (M : List (Nat × Value) → Own → Prop) (f' : Fm) (L' : Own) : Prop := Ag D f' f ∧ ∃ s' L3, L3.Sublist L' ∧ SA f' s' ∧ M s' L3
theorem c_mid_ov {x y : Code} (D : List Nat) (M : List (Nat × Value) → Own → Prop) (h : CWI P n w0 r x (thenQ (Md D f M) Q) f L)
    (h2 : ∀ s L' g, M s L' → CWI P n w0 r y Q (upds n (ov D g f) s) L') : CWI P n w0 r (.seq x y) Q f L :=
  c_seq_mid (Md D f M) h fun f' L' ⟨hA, s', L3, h3, h4, h5⟩ => by
    have := (h2 s' L3 f' h5).weak h3
    rwa [← hA.eq, upds_self h4] at this
/-- A region all of whose ways end with one value in slot d. -/
def Jn (D : List Nat) (f : Fm) (L : Own) (d : Nat) (v : Value) : Po := fun e f' L' => e = .normal ∧ Ag D f' f ∧ f' d = v ∧ L' = L
theorem c_region_j {id : Nat} {l : List Oper} (D : List Nat) (d : Nat) (v : Value) (h : W P n w0 .lex l.toArray (Jn D f L d v) l f L) (k : ∀ g, Q .normal (upd n (ov D g f) d v) L) : CWI P n w0 r (.region id l.toArray false) Q f L :=
  (c_region h).mono fun e f' L' ⟨h1, h2, h3, h4⟩ => by
    subst h1; subst h4
    have := k f'
    rwa [← h2.eq, upd_self h3] at this
theorem c_draw_j {id : Nat} {l : List Oper} (hm : P.follows .mixedOrders = true) (hB : Region.lexB .any l.toArray = true) (D : List Nat) (d : Nat) (v : Value) (h : W P n w0 .quiet l.toArray (Jn D f L d v) l f L) (k : ∀ g, Q .normal (upd n (ov D g f) d v) L) : CW P n w0 (.region id l.toArray true) Q f L :=
  (c_draw hm hB h).mono fun e f' L' ⟨h1, h2, h3, h4⟩ => by
    subst h1; subst h4
    have := k f'
    rwa [← h2.eq, upd_self h3] at this
theorem jn {D : List Nat} {d : Nat} {v u : Value} {f' : Fm} (hA : Ag D f' f) (hv : f' d = u) (h : u = v) : Jn D f L d v .normal f' L := ⟨rfl, hA, hv.trans h, rfl⟩

/-! Slices of one array that are read: 'SlR w0 L s enc v xs': v reads as xs, each element s cells by enc. -/
def bk (A : Option Addr) : Nat := (A.getD default).block
def of_ (A : Option Addr) : Nat := (A.getD default).off
structure SlR {α : Type} (w0 : World) (L : Own) (enc : α → List Value) (v : Value) (xs : List α) : Prop where
  ex : ∃ A cap, v = .slice A xs.length cap ∧ xs.length ≤ cap ∧ xs.length ≤ 1152921504606846976 ∧ (xs ≠ [] → A = some ⟨bk A, of_ A, none⟩) ∧ ∀ i c, (xs.flatMap enc)[i]? = some c → Rd w0 L ⟨bk A, of_ A + i, none⟩ c
theorem flat_get {α : Type} {enc : α → List Value} {s : Nat} (he : ∀ x, (enc x).length = s) : ∀ (xs : List α) (i j : Nat) (x : α) (c : Value), xs[i]? = some x → (enc x)[j]? = some c → (xs.flatMap enc)[i * s + j]? = some c
  | [], i, j, x, c, h, _ => by simp at h
  | y :: ys, 0, j, x, c, h, hc => by
    simp only [List.getElem?_cons_zero, Option.some.injEq] at h
    subst h
    have hj : j < (enc y).length := (List.getElem?_eq_some_iff.1 hc).1
    rw [List.flatMap_cons, Nat.zero_mul, Nat.zero_add, List.getElem?_append_left hj]; exact hc
  | y :: ys, i + 1, j, x, c, h, hc => by
    have := flat_get he ys i j x c (by simpa using h) hc
    have hl := he y
    rw [List.flatMap_cons, List.getElem?_append_right (by rw [hl, Nat.succ_mul]; omega), hl]
    rw [show (i + 1) * s + j - s = i * s + j by rw [Nat.succ_mul]; omega]
    exact this
end
section
variable {α : Type} {w0 w : World} {L L' : Own} {enc : α → List Value} {v : Value} {xs : List α}
theorem SlR.at (h : SlR w0 L enc v xs) (hM : Mem w0 w L) : SlR w [] enc v xs := by
  obtain ⟨A, cap, h1, h2, h3, h4, h5⟩ := h.ex
  exact ⟨A, cap, h1, h2, h3, h4, fun i c hc => (h5 i c hc).at hM⟩
theorem SlR.sub (h : SlR w0 L enc v xs) (hs : L.Sublist L') : SlR w0 L' enc v xs := by
  obtain ⟨A, cap, h1, h2, h3, h4, h5⟩ := h.ex
  exact ⟨A, cap, h1, h2, h3, h4, fun i c hc => (h5 i c hc).sub hs⟩
theorem SlR.perm (h : SlR w0 L enc v xs) (hs : L'.Perm L) : SlR w0 L' enc v xs := by
  obtain ⟨A, cap, h1, h2, h3, h4, h5⟩ := h.ex
  exact ⟨A, cap, h1, h2, h3, h4, fun i c hc => (h5 i c hc).perm hs⟩
theorem SlR.one (h : SlR w0 L enc v xs) : v.oneCell' = true := by
  obtain ⟨A, cap, rfl, _⟩ := h.ex; rfl
end
def encI (x : Int) : List Value := [.int .i64 x]
def encB (b : Bool) : List Value := [.bool b]
theorem flat1 {α : Type} {g : α → Value} (xs : List α) : xs.flatMap (fun x => [g x]) = xs.map g := by
  induction xs with
  | nil => rfl
  | cons x xs ih => simp [List.flatMap_cons, ih]
theorem flatI (xs : List Int) : xs.flatMap encI = xs.map (Value.int .i64) := flat1 xs
theorem flatB (xs : List Bool) : xs.flatMap encB = xs.map Value.bool := flat1 xs
/-- An element's cell, in the walk's own spelling. -/
theorem rdI {w0 : World} {L : Own} {xs : List Int} {b o : Nat} (h : ∀ i c, (xs.flatMap encI)[i]? = some c → Rd w0 [] ⟨b, o + i, none⟩ c) {j : Int} {x : Int} (hx : xs[j.toNat]? = some x) : Rd w0 L ⟨b, o + j.toNat * 1, none⟩ (.int .i64 x) := by
  rw [Nat.mul_one]; exact (h _ _ (by rw [flatI, List.getElem?_map, hx]; rfl)).sub (List.nil_sublist _)
theorem rdB {w0 : World} {L : Own} {xs : List Bool} {b o : Nat} (h : ∀ i c, (xs.flatMap encB)[i]? = some c → Rd w0 [] ⟨b, o + i, none⟩ c) {j : Int} {x : Bool} (hx : xs[j.toNat]? = some x) : Rd w0 L ⟨b, o + j.toNat * 1, none⟩ (.bool x) := by
  rw [Nat.mul_one]; exact (h _ _ (by rw [flatB, List.getElem?_map, hx]; rfl)).sub (List.nil_sublist _)
theorem rd2 {w0 : World} {L : Own} {b o : Nat} {v1 v2 : Value} (h1 : Rd w0 [] ⟨b, o, none⟩ v1) (h2 : Rd w0 [] ⟨b, o + 1, none⟩ v2) : ∀ i v, [v1, v2][i]? = some v → Rd w0 L ((⟨b, o, none⟩ : Addr).add i) v := by
  intro i v h
  rw [addr_add]
  match i with
  | 0 => simp at h; subst h; exact h1.sub (List.nil_sublist _)
  | 1 => simp at h; subst h; exact h2.sub (List.nil_sublist _)
  | i + 2 => simp at h
theorem getN {α : Type} {xs : List α} {k : Nat} (h : k < xs.length) : xs[k]? = some (xs[k]'h) := List.getElem?_eq_getElem h
theorem ne_of_lt {α : Type} {xs : List α} {k : Nat} (h : k < xs.length) : xs ≠ [] := fun e => by subst e; simp at h
theorem take_succ' {α : Type} {xs : List α} {k : Nat} (h : k < xs.length) : xs.take (k + 1) = xs.take k ++ [xs[k]'h] := List.take_succ_eq_append_getElem h
theorem nmem_succ {α : Type} {xs : List α} {x : α} {k : Nat} (h : k < xs.length) (hn : x ∉ xs.take k) (hx : x ≠ xs[k]'h) : x ∉ xs.take (k + 1) := by
  rw [take_succ' h]; exact fun hm => (List.mem_append.1 hm).elim hn (fun hm => hx (List.mem_singleton.1 hm))
end Go.Proofs.Ytnmhhelcaibdoaa.Sl
