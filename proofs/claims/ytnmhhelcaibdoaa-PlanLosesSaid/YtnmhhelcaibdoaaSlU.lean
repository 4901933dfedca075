/- The walk's own calculus: the library's sort, an empty slice literal, a slice held against nil. -/
import Derived.Test.YtnmhhelcaibdoaaSlT
import Derived.Test.YtnmhhelcaibdoaaSh
import Derived.Shelf.Sort.Plain
import Derived.Shelf.Slices.In.SortNone
import Derived.Ground.Names2Prog
namespace Go.Proofs.Ytnmhhelcaibdoaa.Sl
open Go Go.RowKit
set_option linter.unusedVariables false
set_option linter.unusedSimpArgs false
section
variable {P : Program} {n : Nat} {w0 : World} {q : Mo} {ops : Array Oper} {Q : Po} {rest : List Oper} {f : Fm} {L : Own} {d ty : Nat} {pos : String} {af : Array Edge} {g : Option (Nat × Bool)}
/-- []T{} -/
theorem x_bs0 {T E s by_ : Nat} [hS : CSL P T E] [hE : CCE P E s by_] (hw : Region.wanted ⟨some d, .buildSlice T 0 #[], ty, pos, af, g⟩ (yieldB f ops) = true)
    (k : ∀ b, W P n w0 .lex ops Q rest (upd n f d (.slice (some ⟨b, 0, none⟩) 0 0)) ((b, B E []) :: L)) : W P n w0 .lex ops Q (⟨some d, .buildSlice T 0 #[], ty, pos, af, g⟩ :: rest) f L :=
  w_act hw fun w hM => by
    obtain ⟨zs, inf, z, hi, hsz, hby, hz, hzc, hzl⟩ := hE.out
    have hun : (underlying T).run P w = .ok (.slice E) w := by simp [underlying, program, Sem.run, hS.out]
    have hsize : (sizeOf E).run P w = .ok s w := by simp [sizeOf, typeInfo, program, Sem.run, hi, hsz]
    refine ⟨.slice (some ⟨w.heap.size, 0, none⟩) 0 0, _, w.alloc (B E []), ?_, hM.new _, k _⟩
    simp only [execOp, Instr.buildSlice, Sem.run_bind, hun, Result.andThen_ok, hsize, Nat.zero_mul]
    rw [if_neg (by omega)]
    simp [Instr.fill]
    have e0 : (Array.map (fun x => (default : Value)) (Array.range 0)) = ([] : List Value).toArray := by simp
    rw [e0, newRow_run]
    rfl
/-- A slice held against nil. -/
theorem x_eqsn {T E T' : Nat} [hS : CSL P T E] {x y : Operand} {A : Option Addr} {len cap : Nat} (hw : Region.wanted ⟨some d, .binOp .eql T x y T', ty, pos, af, g⟩ (yieldB f ops) = true) (hx : ev f x = .slice A len cap) (hy : ev f y = .slice none 0 0)
    (kk : W P n w0 q ops Q rest (upd n f d (.bool A.isNone)) L) : W P n w0 q ops Q (⟨some d, .binOp .eql T x y T', ty, pos, af, g⟩ :: rest) f L :=
  w_ev hw (v := .bool A.isNone) (fun w _ => by
    have hun : (underlying T).run P w = .ok (.slice E) w := by simp [underlying, program, Sem.run, hS.out]
    have h1 : (Op.equal T (.slice A len cap) (.slice none 0 0)).run P w = .ok A.isNone w := by
      show (Op.equalIn (9999 + 1) T (.slice A len cap) (.slice none 0 0)).run P w = _
      unfold Op.equalIn
      simp only [Sem.run_bind, hun, Result.andThen_ok]
      cases A <;> rfl
    have h2 : (eqGuard .eql T x y (.slice A len cap) (.slice none 0 0)).run P w = .ok () w := by simp [eqGuard]
    simp only [execOp, hx, hy, Sem.run_bind, h2, Result.andThen_ok, binOp, h1, Sem.run_pure]) kk
end
section
variable {w0 : World} {L : Own}
open Go.Sort in
theorem Mem.grow {w : World} (h : Mem w0 w L) (os : Array Obj) : Mem w0 (grow w os) L := by
  refine ⟨h.below.trans ⟨rfl, rfl, rfl, by rw [size_grow]; omega, fun k hk => ?_⟩, fun x hx => ⟨(h.own x hx).1, ?_⟩, h.nodup⟩
  · have := h.below.size
    exact heap_grow_old w os (by omega)
  · have hlt := h.lt hx
    rw [heap_grow_old w os hlt]
    exact (h.own x hx).2
open Go.Sort in
theorem Mem.ahead {w : World} (h : Mem w0 w L) (n : Nat) : Mem w0 (Sort.ahead w n) L := ⟨⟨h.below.os, h.below.tape, h.below.output, h.below.size, h.below.block⟩, h.own, h.nodup⟩
open Go.Sort in
/-- slices.Sort of an owned slice of ints. -/
theorem sort_g {v : Value} {xs : List Int} {S : Own} (h : OSl 3 1 v (xs.map (Value.int .i64)) xs.length S) (hs : S.Sublist L) (hl : xs.length < 4611686018427387904) {R : Own} (hp : L.Perm (S ++ R)) :
    Gives Try.prog w0 L 134 [v] (fun v' L' => v' = .tuple #[] ∧ ∃ S', L' = S' ++ R ∧ OSl 3 1 v ((xs.mergeSort fun x y => decide (x ≤ y)).map (Value.int .i64)) xs.length S') := by
  intro w hM
  have hM' := hM.perm hp
  generalize hcs : xs.map (Value.int .i64) = cs at h
  generalize hlen : xs.length = len at h
  cases h with
  | nil =>
    have hx : xs = [] := by simpa using hcs
    subst hx
    refine (Any.slices_Sort_int_none Try.lays189 none 0 w).mono ?_
    rintro e w' ⟨rfl, rfl⟩
    exact ⟨_, [] ++ R, rfl, hM', rfl, [], rfl, by rw [show ([] : List Int).mergeSort (fun x y => decide (x ≤ y)) = [] by simp]; exact .nil⟩
  | @own b _ sp _ cap hl1 hc hsp =>
    have hb : Has ((b, B 3 (cs ++ sp)) :: R) b (B 3 (cs ++ sp)) := .here
    have hH : Holds (Value.int .i64) w b 0 xs.toArray := fun j hj => by
      have hj' : j < xs.length := by simpa using hj
      refine ⟨?_, hM'.notFrozenB hb _⟩
      rw [hM'.cellB hb, Nat.zero_add, List.getElem?_append_left (by rw [← hcs]; simpa using hj'), ← hcs]
      simp [List.getElem?_map, hj']
    have hbs : b < w.heap.size := hM'.lt (x := (b, B 3 (cs ++ sp))) (by simp)
    rw [← hlen]
    refine (Any.slices_Sort_int Try.lays189 b 0 cap xs w hH hbs hl).mono ?_
    rintro e w' ⟨rfl, n, os, rfl⟩
    have hms : (xs.mergeSort fun x y => decide (x ≤ y)).length = xs.length := (List.mergeSort_perm _ _).length_eq
    refine ⟨_, [(b, B 3 ((xs.mergeSort fun x y => decide (x ≤ y)).map (Value.int .i64) ++ sp))] ++ R, rfl, ?_, rfl, _, rfl, .own (by simp [hms]) (by omega) (by rw [hlen]; exact hsp)⟩
    refine Mem.grow ?_ os
    refine Mem.put (o := B 3 (cs ++ sp)) (w := Sort.ahead w n) (hM'.ahead n) rfl rfl rfl (by simp) ?_ ?_
    · have hh := hM'.has hb
      simp only [putRow, mapBlock, heap_ahead, Array.getElem?_modify, hh, B, onCells, if_true, Option.map_some]
      congr 2
      apply Array.ext
      · simp [putCells, ← hcs, hms]
      · intro i h1 h2
        simp only [putCells, Array.getElem_mapIdx, List.getElem_toArray, Nat.zero_le, true_and, Nat.zero_add, List.size_toArray, hms, Nat.sub_zero]
        by_cases hi : i < xs.length
        · rw [if_pos hi, List.getElem_append_left (by simpa [hms] using hi)]
          simp [hms, hi]
        · have hcl : cs.length = xs.length := by rw [← hcs]; simp
          rw [if_neg hi, List.getElem_append_right (by omega), List.getElem_append_right (by rw [List.length_map]; omega)]
          congr 1
          rw [List.length_map]; omega
    · intro k hk
      simp only [putRow, mapBlock, heap_ahead, Array.getElem?_modify]
      rw [if_neg (fun e => hk e.symm)]
end
section
variable {P : Program} {n : Nat} {w0 : World} {r : Option Nat} {Q : Po} {f : Fm} {L : Own}
/-- A region all of whose ways end with one value in slot d; what was made on the way is let go. -/
def Jns (D : List Nat) (f : Fm) (L : Own) (d : Nat) (v : Value) : Po := fun e f' L' => e = .normal ∧ Ag D f' f ∧ f' d = v ∧ L.Sublist L'
theorem c_region_js {id : Nat} {l : List Oper} (D : List Nat) (d : Nat) (v : Value) (h : W P n w0 .lex l.toArray (Jns D f L d v) l f L) (k : ∀ g, Q .normal (upd n (ov D g f) d v) L) : CWI P n w0 r (.region id l.toArray false) Q f L :=
  fun ds a w ha hM => wpIn_mono (c_region h ds a w ha hM) fun _ _ _ ⟨f', L', h1, h2, e1, e2, e3, e4⟩ => ⟨f', L, h1, h2.drop e4, by
    subst e1
    have := k f'
    rwa [← e2.eq, upd_self e3] at this⟩
theorem jns {D : List Nat} {d : Nat} {v u : Value} {f' : Fm} {L' : Own} (hA : Ag D f' f) (hv : f' d = u) (hs : L.Sublist L') (h : u = v) : Jns D f L d v .normal f' L' := ⟨rfl, hA, hv.trans h, hs⟩
end
theorem rdI' {w0 : World} {L0 L : Own} {xs : List Int} {b o : Nat} (hs : L0.Sublist L) (h : ∀ i c, (xs.flatMap encI)[i]? = some c → Rd w0 L0 ⟨b, o + i, none⟩ c) {j : Int} {x : Int} (hx : xs[j.toNat]? = some x) : Rd w0 L ⟨b, o + j.toNat * 1, none⟩ (.int .i64 x) := by
  rw [Nat.mul_one]; exact (h _ _ (by rw [flatI, List.getElem?_map, hx]; rfl)).sub hs
theorem onesI (xs : List Int) : (xs.flatMap encI).all Value.oneCell' = true := by rw [flatI]; simp [Value.oneCell']
theorem onesB (xs : List Bool) : (xs.flatMap encB).all Value.oneCell' = true := by rw [flatB]; simp [Value.oneCell']
theorem lenI (xs : List Int) : (xs.flatMap encI).length = xs.length * 1 := by rw [flatI]; simp
theorem lenB (xs : List Bool) : (xs.flatMap encB).length = xs.length * 1 := by rw [flatB]; simp
theorem perm1 {a : Nat × Obj} {S R : Own} : (a :: (S ++ R)).Perm (S ++ a :: R) := List.perm_middle.symm
theorem perm2 {a b : Nat × Obj} {S R : Own} : (a :: b :: (S ++ R)).Perm (S ++ a :: b :: R) := (List.Perm.cons a List.perm_middle.symm).trans List.perm_middle.symm
theorem perm3 {a b : Nat × Obj} {S1 S R : Own} : (a :: (S1 ++ b :: (S ++ R))).Perm (S ++ (a :: (S1 ++ b :: R))) := by
  refine (List.Perm.cons a ?_).trans List.perm_middle.symm
  have h1 : (S1 ++ b :: (S ++ R)).Perm (S1 ++ (S ++ b :: R)) := List.Perm.append_left S1 List.perm_middle.symm
  refine h1.trans ?_
  rw [← List.append_assoc, ← List.append_assoc]
  exact List.Perm.append_right _ List.perm_append_comm
section
variable {P : Program} {n : Nat} {w0 : World} {q : Mo} {ops : Array Oper} {Q : Po} {rest : List Oper} {f : Fm} {L : Own} {d ty : Nat} {pos : String} {af : Array Edge} {g : Option (Nat × Bool)}
/-- copy of a whole slice into a whole block. -/
theorem x_cpf {ST XT E XE s by_ dl dc sl : Nat} [hS : CSL P ST E] [hX : CSL P XT XE] [hE : CCE P E s by_] {x y : Operand} {b T' : Nat} {cs ys : List Value} {xv : Value} {L' : Own}
    (hw : Region.wanted ⟨some d, .call { callee := .builtin .copy, args := #[x, y], argTypes := #[ST, XT] }, ty, pos, af, g⟩ (yieldB f ops) = true)
    (hx : ev f x = .slice (some ⟨b, 0, none⟩) dl dc) (hy : ev f y = xv) (hxs : XS w0 L xv sl ys) (hl : ys.length = sl * s) (ho : ys.all Value.oneCell' = true) (hp : Put L b (B T' cs) (B T' ys) L') (hd : dl = sl) (hc : cs.length = ys.length)
    (kk : W P n w0 .lex ops Q rest (upd n f d (.int .i64 (min sl dl : Nat))) L') : W P n w0 .lex ops Q (⟨some d, .call { callee := .builtin .copy, args := #[x, y], argTypes := #[ST, XT] }, ty, pos, af, g⟩ :: rest) f L := by
  subst hd
  have e : setAll cs 0 (ys.take (min dl dl * s)) = ys := by
    rw [Nat.min_self, ← hl, List.take_length]; exact setAll_all hc.symm
  exact x_cp hw hx hy hxs hl ho (by rw [e]; exact hp) (by omega) kk
end
section
variable {P : Program} {n : Nat} {w0 : World} {r : Option Nat} {Q : Po} {f : Fm} {L : Own}
/-- What a piece of code hands on to what follows, in whatever order its blocks lie. -/
def Mdp (D : List Nat) (f : Fm) (M : List (Nat × Value) → Own → Prop) (f' : Fm) (L' : Own) : Prop := Ag D f' f ∧ ∃ s' L3, (∃ Lp, L'.Perm Lp ∧ L3.Sublist Lp) ∧ SA f' s' ∧ M s' L3
theorem c_mid_p {x y : Code} (D : List Nat) (M : List (Nat × Value) → Own → Prop) (h : CWI P n w0 r x (thenQ (Mdp D f M) Q) f L)
    (h2 : ∀ s L' g, M s L' → CWI P n w0 r y Q (upds n (ov D g f) s) L') : CWI P n w0 r (.seq x y) Q f L :=
  c_seq_mid (Mdp D f M) h fun f' L' ⟨hA, s', L3, ⟨Lp, hp, h3⟩, h4, h5⟩ => by
    have := ((h2 s' L3 f' h5).weak h3).perm hp
    rwa [← hA.eq, upds_self h4] at this
end
/-! Sublists and blocks of a list, found by instances: quick, and quick to fail. -/
class SubL (A L : Own) : Prop where out : A.Sublist L
instance (priority := 2000) SubL.refl {A : Own} : SubL A A := ⟨List.Sublist.refl _⟩
instance (priority := 1900) SubL.nil {L : Own} : SubL [] L := ⟨List.nil_sublist _⟩
instance (priority := 1800) SubL.cc {x : Nat × Obj} {A L : Own} [h : SubL A L] : SubL (x :: A) (x :: L) := ⟨h.out.cons_cons _⟩
instance (priority := 1700) SubL.ap {S A L : Own} [h : SubL A L] : SubL (S ++ A) (S ++ L) := ⟨List.Sublist.append (List.Sublist.refl _) h.out⟩
instance (priority := 1600) SubL.as {S A B L : Own} [h : SubL (S ++ (A ++ B)) L] : SubL ((S ++ A) ++ B) L := ⟨by rw [List.append_assoc]; exact h.out⟩
instance (priority := 1500) SubL.as' {S A B L : Own} [h : SubL L (S ++ (A ++ B))] : SubL L ((S ++ A) ++ B) := ⟨by rw [List.append_assoc]; exact h.out⟩
instance (priority := 1400) SubL.apl {S L : Own} : SubL S (S ++ L) := ⟨List.sublist_append_left _ _⟩
instance (priority := 1300) SubL.c {x : Nat × Obj} {A L : Own} [h : SubL A L] : SubL A (x :: L) := ⟨h.out.cons _⟩
instance (priority := 1200) SubL.sk {S A L : Own} [h : SubL A L] : SubL A (S ++ L) := ⟨h.out.trans (List.sublist_append_right _ _)⟩
class HasC (L : Own) (b : Nat) (o : outParam Obj) : Prop where out : Has L b o
instance (priority := 2000) HasC.here {b : Nat} {o : Obj} {L : Own} : HasC ((b, o) :: L) b o := ⟨.here⟩
instance (priority := 1900) HasC.there {b : Nat} {o : Obj} {x : Nat × Obj} {L : Own} [h : HasC L b o] : HasC (x :: L) b o := ⟨.there h.out⟩
instance (priority := 1800) HasC.app {b : Nat} {o : Obj} {S L : Own} [h : HasC L b o] : HasC (S ++ L) b o := ⟨h.out.app⟩
class PutC (L : Own) (b : Nat) (o : outParam Obj) (o' : Obj) (L' : outParam Own) : Prop where out : Put L b o o' L'
instance (priority := 2000) PutC.here {b : Nat} {o o' : Obj} {L : Own} : PutC ((b, o) :: L) b o o' ((b, o') :: L) := ⟨.here⟩
instance (priority := 1900) PutC.there {b : Nat} {o o' : Obj} {x : Nat × Obj} {L L' : Own} [h : PutC L b o o' L'] : PutC (x :: L) b o o' (x :: L') := ⟨.there h.out⟩
instance (priority := 1800) PutC.app {b : Nat} {o o' : Obj} {S L L' : Own} [h : PutC L b o o' L'] : PutC (S ++ L) b o o' (S ++ L') := ⟨h.out.app⟩
end Go.Proofs.Ytnmhhelcaibdoaa.Sl
