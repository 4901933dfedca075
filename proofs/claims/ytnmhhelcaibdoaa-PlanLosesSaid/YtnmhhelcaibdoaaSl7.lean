/- The walk's own calculus, part seven: slices that the call owns (make, append, copy), slices of slices, indexes. -/
import Derived.Test.YtnmhhelcaibdoaaSl6
namespace Go.Proofs.Ytnmhhelcaibdoaa.Sl
open Go Go.RowKit
set_option linter.unusedVariables false
set_option linter.unusedSimpArgs false

/-- A slice of n elements that reads as the cells ys. -/
structure XS (w0 : World) (L : Own) (x : Value) (n : Nat) (ys : List Value) : Prop where
  ex : ∃ A cap, x = .slice A n cap ∧ (A = none → ys = []) ∧ ∀ a, A = some a → ∀ i c, ys[i]? = some c → Rd w0 L (a.add i) c
/-- A slice that owns its array: its cells, its length, its block. -/
inductive OSl (E s : Nat) : Value → List Value → Nat → Own → Prop
  | nil : OSl E s (.slice none 0 0) [] 0 []
  | own {b : Nat} {cs sp : List Value} {len cap : Nat} (hl : cs.length = len * s) (hc : len ≤ cap) (hsp : sp.length = (cap - len) * s) : OSl E s (.slice (some ⟨b, 0, none⟩) len cap) cs len [(b, B E (cs ++ sp))]
theorem OSl.xs {w0 : World} {L : Own} {E s len : Nat} {v : Value} {cs : List Value} {S : Own} (h : OSl E s v cs len S) (hs : S.Sublist L) : XS w0 L v len cs := by
  cases h with
  | nil => exact ⟨none, 0, rfl, fun _ => rfl, fun a h => by cases h⟩
  | @own b cs sp len cap hl hc hsp =>
    refine ⟨_, _, rfl, fun h => (by cases h), fun a ha i c hi => ?_⟩
    cases ha
    rw [addr_add, Nat.zero_add]
    refine (Rd.own .here ?_).sub hs
    rw [List.getElem?_append_left (List.getElem?_eq_some_iff.1 hi).1]; exact hi
theorem OSl.len {E s len : Nat} {v : Value} {cs : List Value} {S : Own} (h : OSl E s v cs len S) : cs.length = len * s := by
  cases h with
  | nil => simp
  | own hl _ _ => exact hl

section
variable {P : Program} {w0 : World} {L : Own}
theorem firstCells_run {s n : Nat} {x : Value} {ys : List Value} {w : World} {m : Nat} (h : XS w0 L x n ys) (hM : Mem w0 w L) (hm : m * s ≤ ys.length) : (Builtin.firstCells s m x).run P w = .ok (ys.take (m * s)).toArray w := by
  obtain ⟨A, cap, rfl, h1, h2⟩ := h
  cases A with
  | none => simp [Builtin.firstCells, h1 rfl]
  | some a =>
    have := loadCellsFrom_run (P := P) (w := w) (a := a) (ys.take (m * s)) 0 #[] (fun j v hv => by
      rw [Nat.zero_add]
      rw [List.getElem?_take] at hv
      split at hv
      · exact h2 a rfl j v hv w hM
      · cases hv)
    rw [List.length_take, Nat.min_eq_left hm] at this
    simp only [Builtin.firstCells, loadCells, this]
    simp
theorem firstCells_all {s n : Nat} {x : Value} {ys : List Value} {w : World} (h : XS w0 L x n ys) (hM : Mem w0 w L) (hl : ys.length = n * s) : (Builtin.firstCells s n x).run P w = .ok ys.toArray w := by
  have := firstCells_run (P := P) (s := s) (m := n) h hM (by omega)
  rwa [List.take_of_length_le (by omega)] at this

theorem setAll_mid : ∀ (ys cs sp : List Value), ys.length ≤ sp.length → setAll (cs ++ sp) cs.length ys = (cs ++ ys) ++ sp.drop ys.length
  | [], cs, sp, _ => by simp [setAll]
  | y :: ys, cs, [], h => by simp at h
  | y :: ys, cs, x :: sp, h => by
    have := setAll_mid ys (cs ++ [y]) sp (by simpa using h)
    simp only [List.length_append, List.length_cons, List.length_nil, List.append_assoc, List.cons_append, List.nil_append] at this
    simp only [setAll, List.set_append_right _ _ (Nat.le_refl _), Nat.sub_self, List.set_cons_zero, List.length_cons, List.drop_succ_cons]
    rw [this]; simp
theorem growBy_le : ∀ (k need c : Nat), c < need → Builtin.growBy need k c ≤ 2 * need + 192
  | 0, need, c, h => by simp only [Builtin.growBy]; omega
  | k + 1, need, c, h => by
    simp only [Builtin.growBy]
    split
    · omega
    · by_cases h2 : c + (c + 768) / 4 < need
      · exact growBy_le k need _ h2
      · cases k with
        | zero => simp only [Builtin.growBy]; omega
        | succ k => simp only [Builtin.growBy]; rw [if_pos (by omega)]; omega
theorem nextslicecap_le {need old : Nat} (h : old < need) : Builtin.nextslicecap need old ≤ 2 * need + 192 := by
  unfold Builtin.nextslicecap
  split
  · omega
  · split
    · omega
    · exact growBy_le 4 need old h
/-- What an element type is. -/
structure CE (P : Program) (E s by_ : Nat) (zs : List Value) : Prop where
  ex : ∃ inf z, P.info? E = some inf ∧ inf.size = s ∧ inf.bytes = by_ ∧ inf.zero = some z ∧ z.cells = zs.toArray ∧ zs.length = s
theorem append_run {ST XT XE E s by_ len n : Nat} {zs cs ys : List Value} {sv x : Value} {S : Own} {ty : Nat} (hS : P.underlying ST = some (.slice E)) (hX : P.underlying XT = some (.slice XE)) (hE : CE P E s by_ zs)
    (hs : OSl E s sv cs len S) (hx : XS w0 (S ++ L) x n ys) (hl : ys.length = n * s) (ho : ys.all Value.oneCell' = true) (hb : (2 * (len + n) + 192) * by_ ≤ 281474976710656) (hb0 : 0 < by_) :
    ∀ w, Mem w0 w (S ++ L) → ∃ v' S' w', (Builtin.append_ #[ST, XT] ty #[sv, x]).run P w = .ok v' w' ∧ OSl E s v' (cs ++ ys) (len + n) S' ∧ Mem w0 w' (S' ++ L) := by
  intro w hM
  obtain ⟨inf, z, hi, hsz, hby, hz, hzc, hzl⟩ := hE.ex
  have hxe := hx
  obtain ⟨xA, xcap, rfl, hx1, hx2⟩ := hxe
  have hsize : (sizeOf E).run P w = .ok s w := by simp [sizeOf, typeInfo, program, Sem.run, hi, hsz]
  have hinfo : ∀ w, (typeInfo E).run P w = .ok inf w := fun w => by simp [typeInfo, program, Sem.run, hi]
  have hzero : ∀ w, (zeroValue E).run P w = .ok z w := fun w => by simp [zeroValue, hinfo, hz]
  have hcsl := hs.len
  have hfirst := firstCells_all (P := P) hx hM hl
  have hunS : (underlying ST).run P w = .ok (.slice E) w := by simp [underlying, program, Sem.run, hS]
  have hunX : (underlying XT).run P w = .ok (.slice XE) w := by simp [underlying, program, Sem.run, hX]
  have hdrew : Mem w0 w.drew (S ++ L) := hM.drewN
  have hfirst' := firstCells_all (P := P) hx hdrew hl
  have hforced : ∀ a b, (Question.appendCap a b E).forced = false := fun _ _ => rfl
  have hcut : ∀ a b t, ∃ c, (Question.appendCap a b E).cut t = c ∧ a ≤ c := fun a b t => ⟨_, rfl, by simp only [Question.cut]; omega⟩
  have hzc' : ∀ k, Builtin.zeroCells z.cells k = ((List.range (k * s)).map fun i => zs.toArray[i % s]!).toArray := fun k => by
    simp only [Builtin.zeroCells, hzc, List.size_toArray, hzl]
    apply Array.ext'; simp
  have hnx : ∀ cap, cap < len + n → ¬ 281474976710656 < Builtin.nextslicecap (len + n) cap * by_ := fun cap hc => by
    have h1 := nextslicecap_le hc
    have h2 := Nat.mul_le_mul_right by_ h1
    omega
  have hbz : by_ ≠ 0 := by omega
  cases hs with
  | nil =>
    by_cases hn : n = 0
    · subst hn
      have hy : ys = [] := by simpa using hl
      subst hy
      refine ⟨.slice none 0 0, [], w, ?_, .nil, hM⟩
      simp [Builtin.append_, hunS, hunX, hsize, Builtin.lenOf, hfirst]
    · obtain ⟨c, hc, hge⟩ := hcut n 0 (w.tape w.drawn (.appendCap n 0 E))
      have hnx0 := hnx 0 (by omega)
      rw [Nat.zero_add] at hnx0
      have hold : (Builtin.firstCells s 0 (.slice none 0 0)).run P w.drew = .ok #[] w.drew := rfl
      refine ⟨.slice (some ⟨w.heap.size, 0, none⟩) n c, [(w.heap.size, B E (ys ++ (List.range ((c - n) * s)).map fun i => zs.toArray[i % s]!))], _, ?_, ?_, hdrew.new (B E (ys ++ (List.range ((c - n) * s)).map fun i => zs.toArray[i % s]!))⟩
      · simp [Builtin.append_, hunS, hunX, hsize, Builtin.lenOf, hn, hinfo, hby, hbz, hnx0, hforced, hfirst', hc, hzero, hzc', hold]
        rw [newRow_run]
        simp
      · simp only [List.nil_append, Nat.zero_add]
        exact .own hl hge (by simp)
  | @own b _ sp _ cap hl1 hc hsp =>
    by_cases hn : len + n ≤ cap
    · have hsc : sp.length = n * s + (cap - (len + n)) * s := by rw [hsp, ← Nat.add_mul]; congr 1; omega
      obtain ⟨w', h1, h2⟩ := storeCells_run (P := P) (T := E) ys 0 (len * s) (cs ++ sp) w (by simpa using hM) ho (by rw [List.length_append, hl1, hsc, hl]; omega)
      refine ⟨.slice (some ⟨b, 0, none⟩) (len + n) cap, [(b, B E ((cs ++ ys) ++ sp.drop ys.length))], w', ?_, .own (by rw [List.length_append, hl1, hl, Nat.add_mul]) hn (by rw [List.length_drop, hsc, hl]; omega), ?_⟩
      · simp [Builtin.append_, hunS, hunX, hsize, Builtin.lenOf, hfirst, hn, addr_add, h1]
      · have e : setAll (cs ++ sp) (len * s + 0) ys = (cs ++ ys) ++ sp.drop ys.length := by
          rw [Nat.add_zero, ← hl1]
          exact setAll_mid ys cs sp (by rw [hsc, hl]; omega)
        rw [e] at h2
        simpa using h2
    · obtain ⟨c, hc', hge⟩ := hcut (len + n) cap (w.tape w.drawn (.appendCap (len + n) cap E))
      have hnx0 := hnx cap (by omega)
      have hold : (Builtin.firstCells s len (.slice (some ⟨b, 0, none⟩) len cap)).run P w.drew = .ok cs.toArray w.drew :=
        firstCells_all (OSl.xs (.own hl1 hc hsp) (List.sublist_append_left _ _)) hdrew hl1
      refine ⟨.slice (some ⟨w.heap.size, 0, none⟩) (len + n) c, [(w.heap.size, B E ((cs ++ ys) ++ (List.range ((c - (len + n)) * s)).map fun i => zs.toArray[i % s]!))], _, ?_, ?_, (hdrew.drop (List.sublist_append_right _ _)).new (B E ((cs ++ ys) ++ (List.range ((c - (len + n)) * s)).map fun i => zs.toArray[i % s]!))⟩
      · simp [Builtin.append_, hunS, hunX, hsize, Builtin.lenOf, hn, hinfo, hby, hbz, hnx0, hforced, hfirst', hold, hc', hzero, hzc']
        rw [newRow_run]
        simp
      · exact .own (by rw [List.length_append, hl1, hl, Nat.add_mul]) hge (by simp)
end
class CCE (P : Program) (E : Nat) (s by_ : outParam Nat) : Prop where out : ∃ zs, CE P E s by_ zs
class CZ1 (P : Program) (E : Nat) (z : outParam Value) : Prop where out : ((P.info? E).bind (·.zero)).map Value.cells = some #[z]
theorem CCE.of {P : Program} {E s by_ : Nat} {zs : List Value} (hz : ((P.info? E).bind (·.zero)).map Value.cells = some zs.toArray) (hs : (P.info? E).map (fun i => (i.size, i.bytes)) = some (s, by_)) (hl : zs.length = s) : CCE P E s by_ := by
  cases hi : P.info? E with
  | none => simp [hi] at hs
  | some inf =>
    simp only [hi, Option.map_some, Option.some.injEq, Prod.mk.injEq] at hs
    simp only [hi, Option.bind_some] at hz
    cases hzz : inf.zero with
    | none => simp [hzz] at hz
    | some z =>
      simp only [hzz, Option.map_some, Option.some.injEq] at hz
      exact ⟨zs, ⟨inf, z, hi, hs.1, hs.2, hzz, hz, hl⟩⟩

section
variable {P : Program} {n : Nat} {w0 : World} {q : Mo} {ops : Array Oper} {Q : Po} {rest : List Oper} {f : Fm} {L : Own}
variable {d ty : Nat} {dst : Option Nat} {pos : String} {af : Array Edge} {g : Option (Nat × Bool)}
theorem W.weak {l : List Oper} {L' : Own} (h : W P n w0 .lex ops Q l f L') (hs : L'.Sublist L) : W P n w0 .lex ops Q l f L := ⟨fun r ds a w ha hM => h.1 r ds a w ha (hM.drop hs), fun ds a w ha hM => h.2 ds a w ha (hM.drop hs)⟩
theorem W.perm {l : List Oper} {L' : Own} (h : W P n w0 .lex ops Q l f L') (hs : L.Perm L') : W P n w0 .lex ops Q l f L := ⟨fun r ds a w ha hM => h.1 r ds a w ha (hM.perm hs), fun ds a w ha hM => h.2 ds a w ha (hM.perm hs)⟩
theorem CWI.perm {r : Option Nat} {c : Code} {L' : Own} (h : CWI P n w0 r c Q f L') (hs : L.Perm L') : CWI P n w0 r c Q f L := fun ds a w ha hM => h ds a w ha (hM.perm hs)
/-- append onto a slice that owns its array; the rest of the list is R. -/
theorem x_app {ST XT E XE s by_ len k : Nat} [hS : CSL P ST E] [hX : CSL P XT XE] [hE : CCE P E s by_] {x y : Operand} {cs ys : List Value} {sv xv : Value} {S R : Own}
    (hw : Region.wanted ⟨some d, .call { callee := .builtin .append, args := #[x, y], argTypes := #[ST, XT] }, ty, pos, af, g⟩ (yieldB f ops) = true)
    (hx : ev f x = sv) (hy : ev f y = xv) (hp : L.Perm (S ++ R)) (hs : OSl E s sv cs len S) (hxs : XS w0 (S ++ R) xv k ys) (hl : ys.length = k * s) (ho : ys.all Value.oneCell' = true) (hb : (2 * (len + k) + 192) * by_ ≤ 281474976710656) (hb0 : 0 < by_)
    (kk : ∀ v' S', OSl E s v' (cs ++ ys) (len + k) S' → W P n w0 .lex ops Q rest (upd n f d v') (S' ++ R)) : W P n w0 .lex ops Q (⟨some d, .call { callee := .builtin .append, args := #[x, y], argTypes := #[ST, XT] }, ty, pos, af, g⟩ :: rest) f L :=
  W.perm (w_act hw fun w hM => by
    obtain ⟨zs, hz⟩ := hE.out
    obtain ⟨v', S', w', h1, h2, h3⟩ := append_run (ty := ty) hS.out hX.out hz hs hxs hl ho hb hb0 w hM
    refine ⟨v', S' ++ R, w', ?_, h3, kk v' S' h2⟩
    simp only [execOp, resolve, invoke, builtin, Sem.run_bind, Sem.run_pure, Result.andThen_ok, List.map_toArray, List.map_cons, List.map_nil, hx, hy]
    rw [h1]; rfl) hp
/-- []T{x}: one element. -/
theorem x_bs1 {T E s by_ : Nat} [hS : CSL P T E] [hE : CCE P E s by_] {x : Operand} {v : Value} {cs : List Value} (hw : Region.wanted ⟨some d, .buildSlice T 1 #[(0, x)], ty, pos, af, g⟩ (yieldB f ops) = true) (hx : ev f x = v) (hc : v.cells = cs.toArray) (hl : Nat.beq cs.length s = true) (hs : Nat.ble s 16777216 = true) (hs0 : Nat.blt 0 s = true)
    (k : ∀ b, W P n w0 .lex ops Q rest (upd n f d (.slice (some ⟨b, 0, none⟩) 1 1)) ((b, B E cs) :: L)) : W P n w0 .lex ops Q (⟨some d, .buildSlice T 1 #[(0, x)], ty, pos, af, g⟩ :: rest) f L :=
  w_act hw fun w hM => by
    obtain ⟨zs, inf, z, hi, hsz, hby, hz, hzc, hzl⟩ := hE.out
    have hl := Nat.eq_of_beq_eq_true hl
    have hs := Nat.le_of_ble_eq_true hs
    have hs0 : 0 < s := by simpa using hs0
    have hun : (underlying T).run P w = .ok (.slice E) w := by simp [underlying, program, Sem.run, hS.out]
    have hsize : (sizeOf E).run P w = .ok s w := by simp [sizeOf, typeInfo, program, Sem.run, hi, hsz]
    have hzero : (zeroValue E).run P w = .ok z w := by simp [zeroValue, typeInfo, program, Sem.run, hi, hz]
    refine ⟨.slice (some ⟨w.heap.size, 0, none⟩) 1 1, _, w.alloc (B E cs), ?_, hM.new _, k _⟩
    have hfill : ∀ zz : Array Value, zz.size = s → Instr.fill (fun i => some (i * s, s)) zz [(0, v)] = some cs.toArray := by
      intro zz hzz
      have hvs : v.cells.size = s := by rw [hc]; simpa using hl
      simp only [Instr.fill, hvs]
      rw [show (decide (s ≠ s) || decide (0 * s + s > zz.size)) = false by simp; omega, if_neg (by decide)]
      have e : (Array.foldl (fun cs (x : Value × Nat) => match x with | (c, j) => cs.setIfInBounds (0 * s + j) c) zz v.cells.zipIdx) = (setAll zz.toList (0 * s) v.cells.toList).toArray := by
        have := foldl_setAll v.cells.toList zz (0 * s) 0
        simp only [Nat.add_zero] at this
        rw [← this, ← Array.foldl_toList, Array.toList_zipIdx]
      rw [e, Nat.zero_mul, setAll_all (by simpa [hvs] using hzz.symm), hc]
    simp only [execOp, Instr.buildSlice, Sem.run_bind, hun, Result.andThen_ok, hsize, Nat.one_mul, List.map_toArray, List.map_cons, List.map_nil, hx]
    rw [if_neg (by omega), if_neg (by omega)]
    simp only [Sem.run_bind, hzero, Result.andThen_ok, Sem.run_pure]
    rw [hfill _ (by simp)]
    simp only [Sem.run_bind, newRow_run, Result.andThen_ok, Sem.run_pure]
/-- make([]T, n) -/
theorem x_mk {T E s by_ : Nat} {z : Value} [hS : CSL P T E] [hE : CCE P E s by_] [hZ : CZ1 P E z] {x y : Operand} {j : Int} (hw : Region.wanted ⟨some d, .makeSlice T x y, ty, pos, af, g⟩ (yieldB f ops) = true) (hx : ev f x = .int .i64 j) (hy : ev f y = .int .i64 j) (h0 : 0 ≤ j) (hb : j * by_ ≤ 281474976710656) (hb0 : 0 < by_)
    (k : ∀ b, W P n w0 .lex ops Q rest (upd n f d (.slice (some ⟨b, 0, none⟩) j.toNat j.toNat)) ((b, B E (List.replicate j.toNat z)) :: L)) : W P n w0 .lex ops Q (⟨some d, .makeSlice T x y, ty, pos, af, g⟩ :: rest) f L :=
  w_act hw fun w hM => by
    obtain ⟨zs, inf, zz, hi, hsz, hby, hzz, hzc, hzl⟩ := hE.out
    have hz := hZ.out
    simp only [hi, Option.bind_some, hzz, Option.map_some, Option.some.injEq] at hz
    have hs1 : s = 1 := by rw [hzc] at hz; rw [← hzl, show zs = [z] by simpa using congrArg Array.toList hz]; rfl
    subst hs1
    have hun : (underlying T).run P w = .ok (.slice E) w := by simp [underlying, program, Sem.run, hS.out]
    have hinfo : (typeInfo E).run P w = .ok inf w := by simp [typeInfo, program, Sem.run, hi]
    have hsize : (sizeOf E).run P w = .ok 1 w := by simp [sizeOf, hinfo, hsz]
    have hzero : (zeroValue E).run P w = .ok zz w := by simp [zeroValue, hinfo, hzz]
    have hjb : j ≤ 281474976710656 := by
      have : j * 1 ≤ j * by_ := Int.mul_le_mul_of_nonneg_left (by omega) h0
      omega
    have hwr : IntKind.i64.wrap j = j := by unfold IntKind.wrap; simp [IntKind.bits, IntKind.signed]; omega
    have hbig : ¬ ((by_ : Int) * j > 281474976710656) := by rw [Int.mul_comm]; omega
    refine ⟨.slice (some ⟨w.heap.size, 0, none⟩) j.toNat j.toNat, _, w.alloc (B E (List.replicate j.toNat z)), ?_, hM.new _, k _⟩
    have hask : ∀ n, (askRoom n).run P w = .ok () w := fun n => by unfold askRoom; split <;> rfl
    have harr : ∀ zc : Array Value, (j.toNat = 0 ∨ zc = #[z]) → (Array.map (fun x => zc[x % zc.size]!) (Array.range j.toNat)) = (List.replicate j.toNat z).toArray := by
      intro zc hzc
      rcases hzc with h | rfl
      · simp [h]
      · apply Array.ext'
        simp [Nat.mod_one, List.map_const']
    simp only [execOp, Instr.makeSlice, Sem.run_bind, hun, Result.andThen_ok, asInt, hx, hy, asIntOf, Sem.run_pure, hinfo, hby, hwr]
    have hlt : ¬ j < 0 := by omega
    simp only [hlt, hbig, decide_false, Bool.or_false, Int.lt_irrefl, gt_iff_lt, Bool.false_eq_true, if_false, Sem.run_bind, hask, Result.andThen_ok, hsize, Nat.mul_one]
    simp [hlt, hbig]
    simp only [hsize, Result.andThen_ok, Nat.mul_one]
    have h0e : j.toNat = 0 → (Array.map (fun x => (default : Value)) (Array.range j.toNat)) = (List.replicate j.toNat z).toArray := fun h => by simp [h]
    by_cases hj : j.toNat = 0
    · rw [if_pos hj, h0e hj, newRow_run]; rfl
    · rw [if_neg hj, hzero]
      simp only [Result.andThen_ok]
      rw [harr zz.cells (.inr hz), newRow_run]; rfl
end
end Go.Proofs.Ytnmhhelcaibdoaa.Sl
