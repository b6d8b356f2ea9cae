import Derived.Maps.OwnOps
import Derived.Maps.RangeWalk
import Derived.Laws.StructEq
import Derived.WalkKit
import Derived.MapKept
import Derived.Below
/-! A map that the call made and wrote (no entry was ever struck), told as a list of its keys and values in the order of their laying. -/
namespace Go.Uc
open Go.Instr
open Go.ChangeMaps (setBlock)
open Go.RowKit
set_option linter.unusedSectionVars false
section
variable {α : Type} [DecidableEq α]
def entsFrom (key : α → Value) : Nat → List (α × Value) → List MapEntry
  | _, [] => []
  | i, p :: t => ⟨key p.1, p.2, i⟩ :: entsFrom key (i + 1) t
def MapAt (w : World) (b : Nat) (key : α → Value) (l : List (α × Value)) : Prop :=
  w.heap[b]? = some (.map (entsFrom key 0 l).toArray l.length) ∧ (l.map (·.1)).Nodup
def lk (a : α) : List (α × Value) → Nat → Option (Nat × Value)
  | [], _ => none
  | p :: t, i => if a = p.1 then some (i, p.2) else lk a t (i + 1)
def get (a : α) (l : List (α × Value)) : Option Value := (lk a l 0).map (·.2)
def upd (l : List (α × Value)) (a : α) (v : Value) : List (α × Value) :=
  if a ∈ l.map (·.1) then l.map (fun p => if a = p.1 then (a, v) else p) else l ++ [(a, v)]
theorem entsFrom_snoc (key : α → Value) (l : List (α × Value)) (a : α) (v : Value) : ∀ i, entsFrom key i (l ++ [(a, v)]) = entsFrom key i l ++ [⟨key a, v, i + l.length⟩] := by
  induction l with
  | nil => intro i; simp [entsFrom]
  | cons p t ih => intro i; simp [entsFrom, ih]; omega
theorem entsFrom_get (key : α → Value) (l : List (α × Value)) : ∀ i j : Nat, (entsFrom key i l)[j]? = (l[j]?).map fun p => ⟨key p.1, p.2, i + j⟩ := by
  induction l with
  | nil => intro i j; simp [entsFrom]
  | cons p t ih =>
    intro i j
    cases j with
    | zero => simp [entsFrom]
    | succ j => simp [entsFrom, ih]; congr 1; funext q; simp; omega
theorem lk_none {a : α} {l : List (α × Value)} : ∀ {i}, lk a l i = none ↔ a ∉ l.map (·.1) := by
  induction l with
  | nil => intro i; simp [lk]
  | cons p t ih =>
    intro i
    rw [lk]
    split
    · next h => simp [h]
    · next h => rw [ih]; simp [h]
theorem lk_some {a : α} {l : List (α × Value)} : ∀ {i j v}, lk a l i = some (j, v) → ∃ m, j = i + m ∧ l[m]? = some (a, v) := by
  induction l with
  | nil => intro i j v h; simp [lk] at h
  | cons p t ih =>
    intro i j v h
    rw [lk] at h
    split at h
    · next e =>
      simp only [Option.some.injEq, Prod.mk.injEq] at h
      obtain ⟨rfl, rfl⟩ := h
      exact ⟨0, by omega, by simp [e]⟩
    · obtain ⟨m, h1, h2⟩ := ih h
      exact ⟨m + 1, by omega, by simpa using h2⟩
theorem get_none {a : α} {l : List (α × Value)} : get a l = none ↔ a ∉ l.map (·.1) := by
  unfold get
  rw [Option.map_eq_none_iff, lk_none]
theorem get_some {a : α} {l : List (α × Value)} {v : Value} (h : get a l = some v) : (a, v) ∈ l := by
  unfold get at h
  obtain ⟨⟨i, v'⟩, h1, h2⟩ := Option.map_eq_some_iff.1 h
  obtain ⟨m, _, h3⟩ := lk_some h1
  rw [← h2]
  exact List.mem_of_getElem? h3
theorem upd_new {l : List (α × Value)} {a : α} (v : Value) (h : a ∉ l.map (·.1)) : upd l a v = l ++ [(a, v)] := by unfold upd; rw [if_neg h]
/-- What a key's type must bear. -/
structure KeyLaw (P : Program) (k : TypeId) (key : α → Value) : Prop where
  chk : ∀ e w a, (checkKey e 10000 k (key a)).run P w = .ok () w
  same : ∀ a, sameBits 10000 (key a) (key a) = true
  find : ∀ a (l : List (α × Value)) w, (findKey k (key a) (entsFrom key 0 l)).run P w = .ok (lk a l 0) w
variable {P : Program} {k e t : TypeId} {key : α → Value}
theorem getElem?_map_upd {a : α} {v v0 : Value} {l : List (α × Value)} (hn : (l.map (·.1)).Nodup) {i : Nat} (h : l[i]? = some (a, v0)) (j : Nat) :
    (l.map (fun p => if a = p.1 then (a, v) else p))[j]? = if i = j then some (a, v) else l[j]? := by
  rw [List.getElem?_map]
  split
  · next e => subst e; simp [h]
  · next e =>
    cases hj : l[j]? with
    | none => rfl
    | some q =>
      simp only [Option.map_some, Option.some.injEq]
      rw [if_neg]
      intro hq
      apply e
      have h1 : (l.map (·.1))[i]? = some a := by simp [h]
      have h2 : (l.map (·.1))[j]? = some a := by simp [hj, hq]
      have hi := (List.getElem?_eq_some_iff.1 h1).1
      exact (List.getElem?_inj hi hn).1 (h1.trans h2.symm)
theorem run_mapUpdate (K : KeyLaw P k key) (ht : P.underlying t = some (.map k e)) {w : World} {b : Nat} {l : List (α × Value)} (h : MapAt w b key l) (a : α) (v : Value) :
    (Instr.mapUpdate t (.map (some b)) (key a) v).run P w = .ok () (setBlock w b (.map (entsFrom key 0 (upd l a v)).toArray (upd l a v).length)) := by
  obtain ⟨hb, hn⟩ := h
  have hset : ∀ o : Obj, (setObj b o).run P w = .ok () (setBlock w b o) := by
    intro o
    simp [setObj, Sem.run, hb, setBlock]
  have hu : (underlying t).run P w = .ok (.map k e) w := run_underlying ht w
  simp only [Instr.mapUpdate, Sem.run_bind, hu, Result.andThen, getObj, Sem.run, hb, K.chk, K.find]
  cases hl : lk a l 0 with
  | none =>
    have hm := lk_none.1 hl
    simp only [hset]
    unfold upd
    rw [if_neg hm, entsFrom_snoc]
    simp
  | some q =>
    obtain ⟨i, v0⟩ := q
    obtain ⟨m, h1, h2⟩ := lk_some hl
    have hm : a ∈ l.map (·.1) := by
      rw [List.mem_map]
      exact ⟨(a, v0), List.mem_of_getElem? h2, rfl⟩
    have him : i = m := by omega
    subst him
    have hg := entsFrom_get key l 0 i
    rw [h2] at hg
    simp only [keyThatStays]
    have hk : (Option.map (fun x : MapEntry => x.key) ((entsFrom key 0 l).toArray[i]?)).getD (key a) = key a := by
      simp [hg]
    rw [hk, K.same]
    simp only [if_true]
    show (setObj b _).run P w = _
    rw [hset]
    unfold upd
    rw [if_pos hm]
    have e1 : ((entsFrom key 0 l).toArray.modify i fun e => { e with key := key a, val := v }) = (entsFrom key 0 (l.map (fun p => if a = p.1 then (a, v) else p))).toArray := by
      apply Array.ext'
      apply List.ext_getElem?
      intro j
      rw [Array.toList_modify]
      rw [List.getElem?_modify]
      simp only
      rw [entsFrom_get, entsFrom_get, getElem?_map_upd hn h2]
      split
      · next e => subst e; simp [h2]
      · simp
    rw [e1, List.length_map]
theorem upd_keys {l : List (α × Value)} {a : α} {v : Value} : (upd l a v).map (·.1) = if a ∈ l.map (·.1) then l.map (·.1) else l.map (·.1) ++ [a] := by
  unfold upd
  split
  · rw [List.map_map]
    apply List.map_congr_left
    intro p _
    simp only [Function.comp]
    split
    · assumption
    · rfl
  · simp
theorem upd_nodup {l : List (α × Value)} (h : (l.map (·.1)).Nodup) (a : α) (v : Value) : ((upd l a v).map (·.1)).Nodup := by
  rw [upd_keys]
  split
  · exact h
  · next hm =>
    rw [List.nodup_append]
    exact ⟨h, by simp, fun x hx y hy e => hm (by rw [List.mem_singleton] at hy; rw [← hy, ← e]; exact hx)⟩
theorem setBlock_get {w : World} {b : Nat} {o : Obj} (h : b < w.heap.size) : (setBlock w b o).heap[b]? = some o := by
  simp [setBlock, h]
theorem setBlock_other {w : World} {b i : Nat} {o : Obj} (h : i ≠ b) : (setBlock w b o).heap[i]? = w.heap[i]? := by
  simp [setBlock, Ne.symm h]
theorem setBlock_size {w : World} {b : Nat} {o : Obj} : (setBlock w b o).heap.size = w.heap.size := by
  simp [setBlock]
theorem MapAt.lt {w : World} {b : Nat} {l : List (α × Value)} (h : MapAt w b key l) : b < w.heap.size := (Array.getElem?_eq_some_iff.1 h.1).1
theorem MapAt.update {w : World} {b : Nat} {l : List (α × Value)} (h : MapAt w b key l) (a : α) (v : Value) : MapAt (setBlock w b (.map (entsFrom key 0 (upd l a v)).toArray (upd l a v).length)) b key (upd l a v) :=
  ⟨setBlock_get h.lt, upd_nodup h.2 a v⟩
theorem MapAt.made (w : World) (key : α → Value) : MapAt (w.alloc (.map #[] 0)) w.heap.size key [] := by
  exact ⟨heap_alloc_new w (.map #[] 0), by simp⟩
theorem MapAt.same {w w1 : World} {b : Nat} {l : List (α × Value)} (h : MapAt w b key l) (hb : w1.heap[b]? = w.heap[b]?) : MapAt w1 b key l := ⟨hb.trans h.1, h.2⟩
theorem MapAt.alloc {w : World} {b : Nat} {l : List (α × Value)} (h : MapAt w b key l) (o : Obj) : MapAt (w.alloc o) b key l := h.same (Below.heap_alloc w o b h.lt)
theorem MapAt.below {w w1 : World} {b : Nat} {l : List (α × Value)} (h : MapAt w b key l) (hb : Below w.heap.size w w1) : MapAt w1 b key l := h.same (hb.block b h.lt)
theorem MapAt.grown {w w1 : World} {b : Nat} {l : List (α × Value)} (h : MapAt w b key l) {row : Option Nat} (hg : w.grownBy w1 row) (hne : some b ≠ row) : MapAt w1 b key l := h.same (hg.block b h.lt hne)
theorem get_lk {a : α} {l : List (α × Value)} : ∀ {i}, (lk a l i).map (·.2) = get a l := by
  unfold get
  induction l with
  | nil => intro i; rfl
  | cons p t ih =>
    intro i
    simp only [lk]
    split
    · rfl
    · rw [ih (i := i + 1), ih (i := 0 + 1)]
theorem run_lookup (K : KeyLaw P k key) (ht : P.underlying t = some (.map k e)) {w : World} {b : Nat} {l : List (α × Value)} (h : MapAt w b key l) (a : α) {z : Value} (hz : (zeroValue e).run P w = .ok z w) (ok : Bool) :
    (Instr.lookup t (.map (some b)) (key a) ok).run P w = .ok (if ok then .tuple #[(get a l).getD z, .bool (get a l).isSome] else (get a l).getD z) w := by
  obtain ⟨hb, hn⟩ := h
  have hu : (underlying t).run P w = .ok (.map k e) w := run_underlying ht w
  simp only [Instr.lookup, Sem.run_bind, hu, Result.andThen, getObj, Sem.run, hb, K.chk]
  simp only [Sem.run_pure, K.find]
  have hg := get_lk (a := a) (l := l) (i := 0)
  cases hl : lk a l 0 with
  | none =>
    rw [hl] at hg
    rw [← hg]
    simp only [Sem.run_bind, hz, Result.andThen]
    cases ok <;> rfl
  | some q =>
    rw [hl] at hg
    rw [← hg]
    cases ok <;> rfl
theorem findNow_int (q : IntKind) (a : Int) (l : List (Int × Value)) : ∀ i, findNow (.int q) (.int q a) (entsFrom (Value.int q) i l) i = some (lk a l i) := by
  induction l with
  | nil => intro i; rfl
  | cons p t ih =>
    intro i
    simp only [entsFrom, findNow, sameNow, if_true, lk]
    by_cases h : a = p.1
    · rw [if_pos h, beq_iff_eq.2 h]
    · rw [if_neg h, beq_eq_false_iff_ne.2 h]
      exact ih (i + 1)
theorem int_law {P : Program} {k : TypeId} {q : IntKind} (hk : P.underlying k = some (.int q)) : KeyLaw P k (Value.int q) where
  chk := fun e w a => by
    unfold checkKey
    simp [Sem.run_bind, run_underlying hk, Result.andThen]
  same := fun a => by simp [sameBits]
  find := fun a l w => by
    unfold findKey
    simp only [Sem.run_bind, run_underlying hk w, Result.andThen, findNow_int, Sem.run_pure]
/-- A struct of a whole number and a string. -/
def keyIS (p : Int × ByteArray) : Value := .agg #[.int .i64 p.1, .string p.2]
theorem findAsking_eq {P : Program} {k : TypeId} {key : α → Value} {w : World} (heq : ∀ a b, (Op.equal k (key a) (key b)).run P w = .ok (decide (a = b)) w) (a : α) (l : List (α × Value)) : ∀ i, (findAsking k (key a) (entsFrom key i l) i).run P w = .ok (lk a l i) w := by
  induction l with
  | nil => intro i; rfl
  | cons p t ih =>
    intro i
    simp only [entsFrom, findAsking, Sem.run_bind, heq, Result.andThen, lk]
    by_cases h : a = p.1
    · simp [h]
    · simp [h, ih]
theorem is_law {P : Program} {k : TypeId} {f0 f1 : Field} (hk : P.underlying k = some (.struct #[f0, f1])) (hn0 : f0.name ≠ "_") (hn1 : f1.name ≠ "_")
    (hp0 : ∀ a b w, (part f0.type #[.int .i64 a, .string b] f0.offset).run P w = .ok (.int .i64 a) w) (hp1 : ∀ a b w, (part f1.type #[.int .i64 a, .string b] f1.offset).run P w = .ok (.string b) w)
    (ht0 : P.underlying f0.type = some (.int .i64)) (ht1 : P.underlying f1.type = some .string) (hst : P.stoodInHeld k = false) : KeyLaw P k keyIS where
  chk := fun e w a => by
    have h0 : ∀ x : Int, (checkKey e 9999 f0.type (.int .i64 x)).run P w = .ok () w := fun x => by
      unfold checkKey
      simp [Sem.run_bind, run_underlying ht0, Result.andThen]
    have h1 : ∀ x : ByteArray, (checkKey e 9999 f1.type (.string x)).run P w = .ok () w := fun x => by
      unfold checkKey
      simp [Sem.run_bind, run_underlying ht1, Result.andThen]
    unfold checkKey keyIS
    simp only [Sem.run_bind, run_underlying hk, Result.andThen]
    rw [← Array.forIn_toList]
    simp [Sem.run_bind, Result.andThen, hn0, hn1, hp0, hp1, h0, h1]
  same := fun a => by simp [sameBits, keyIS, MapKept.bytes_beq]
  find := fun a l w => by
    have heq : ∀ a b, (Op.equal k (keyIS a) (keyIS b)).run P w = .ok (decide (a = b)) w := by
      intro a b
      have hf : P.fieldsOf k = #[f0, f1] := by simp [Program.fieldsOf, hk]
      unfold Op.equal Op.maxDepth keyIS
      rw [run_equalIn_agg w 9999 k _ _ (by rw [hf]; exact hk) hst, hf]
      have e0 : ∀ x y, (Op.equalIn 9999 f0.type (.int .i64 x) (.int .i64 y)).run P w = .ok (x == y) w := fun x y => run_equalIn_int (P := P) w 9998 f0.type .i64 .i64 x y ht0
      have e1 : ∀ x y, (Op.equalIn 9999 f1.type (.string x) (.string y)).run P w = .ok (x == y) w := fun x y => by rw [beq_toListBytes]; exact run_equalIn_string (P := P) w 9998 f1.type x y ht1
      obtain ⟨a1, a2⟩ := a
      obtain ⟨b1, b2⟩ := b
      simp only [Op.eqFields, if_pos hn0, if_pos hn1, Sem.run_bind, hp0, Result.andThen_ok, e0]
      by_cases h1 : a1 = b1
      · subst h1
        by_cases h2 : a2 = b2
        · subst h2
          simp [hp1, e1, (MapKept.bytes_beq a2 a2).2 rfl]
        · have : (a2 == b2) = false := Bool.eq_false_iff.2 (fun e => h2 ((MapKept.bytes_beq _ _).1 e))
          simp [hp1, e1, this, h2]
      · simp [h1]
    unfold findKey
    simp only [Sem.run_bind, run_underlying hk w, Result.andThen]
    cases l with
    | nil => rfl
    | cons p t =>
      simp only [entsFrom, findNow, sameNow, keyIS]
      exact findAsking_eq heq a (p :: t) 0
theorem grownBy_setBlock (w : World) (b : Nat) (o : Obj) : w.grownBy (setBlock w b o) (some b) :=
  ⟨rfl, rfl, rfl, by rw [setBlock_size]; exact Nat.le_refl _, fun i hi hne => setBlock_other (fun e => hne (by rw [e]))⟩
section
variable {P : Program} {k e t : TypeId} {key : α → Value} {ops : Array Oper} {rest : List Oper} {o : Oper} {a : Act} {Q : Exit → Act → World → Prop}
theorem wpList_mapUpdate_at {w : World} (hg : o.guard = none) (m x v : Operand) (t : TypeId) (hop : o.op = Op.mapUpdate t m x v) (k e : TypeId) (K : KeyLaw P k key) (ht : P.underlying t = some (.map k e)) (b : Nat) (l : List (α × Value))
    (hm : a.eval m = .map (some b)) (h : MapAt w b key l) (c : α) (val : Value) (hx : a.eval x = key c) (hv : a.eval v = val)
    (hK : ∀ w', MapAt w' b key (upd l c val) → w.grownBy w' (some b) → w'.heap.size = w.heap.size → wpList P ops Q rest (a.put o.dst undef) w') :
    wpList P ops Q (o :: rest) a w := by
  refine wpList_plain hg fun K' hK' => ?_
  unfold Oper.wp
  simp [execOp, hop, hm, hx, hv, run_mapUpdate K ht h, Result.andThen]
  exact hK' _ _ (hK _ (h.update c val) (grownBy_setBlock _ _ _) setBlock_size)
theorem wpList_lookup_at {w : World} (hg : o.guard = none) (m x : Operand) (t : TypeId) (ok : Bool) (hop : o.op = Op.lookup t m x ok) (k e : TypeId) (K : KeyLaw P k key) (ht : P.underlying t = some (.map k e)) (b : Nat) (l : List (α × Value))
    (hm : a.eval m = .map (some b)) (h : MapAt w b key l) (c : α) (hx : a.eval x = key c) (z : Value) (hz : (zeroValue e).run P w = .ok z w)
    (hK : wpList P ops Q rest (a.put o.dst (if ok then .tuple #[(get c l).getD z, .bool (get c l).isSome] else (get c l).getD z)) w) :
    wpList P ops Q (o :: rest) a w := by
  refine wpList_plain hg fun K' hK' => ?_
  unfold Oper.wp
  simp [execOp, hop, hm, hx, run_lookup K ht h c hz, Result.andThen]
  exact hK' _ _ (by simpa using hK)
theorem wpList_look1 {w : World} (hg : o.guard = none) (m x : Operand) (t : TypeId) (hop : o.op = Op.lookup t m x false) (k e : TypeId) (K : KeyLaw P k key) (ht : P.underlying t = some (.map k e)) (b : Nat) (l : List (α × Value))
    (hm : a.eval m = .map (some b)) (h : MapAt w b key l) (c : α) (hx : a.eval x = key c) (z : Value) (hz : (zeroValue e).run P w = .ok z w) (v : Value) (hv : (get c l).getD z = v)
    (hK : wpList P ops Q rest (a.put o.dst v) w) :
    wpList P ops Q (o :: rest) a w := wpList_lookup_at hg m x t false hop k e K ht b l hm h c hx z hz (by simpa [hv] using hK)
theorem wpList_look2 {w : World} (hg : o.guard = none) (m x : Operand) (t : TypeId) (hop : o.op = Op.lookup t m x true) (k e : TypeId) (K : KeyLaw P k key) (ht : P.underlying t = some (.map k e)) (b : Nat) (l : List (α × Value))
    (hm : a.eval m = .map (some b)) (h : MapAt w b key l) (c : α) (hx : a.eval x = key c) (z : Value) (hz : (zeroValue e).run P w = .ok z w) (v : Value) (hv : (get c l).getD z = v) (f : Bool) (hf : (get c l).isSome = f)
    (hK : wpList P ops Q rest (a.put o.dst (.tuple #[v, .bool f])) w) :
    wpList P ops Q (o :: rest) a w := wpList_lookup_at hg m x t true hop k e K ht b l hm h c hx z hz (by simpa [hv, hf] using hK)
/-- An iterator over that map, behind which the entries at the places 'done' have come. -/
def IterAt (w : World) (r b n : Nat) (done : List Nat) : Prop := ∃ c0, w.heap[r]? = some (.mapIter (some b) n done.toArray c0) ∧ n ≤ c0 ∧ done.Nodup ∧ ∀ i ∈ done, i < n
theorem IterAt.same {w w1 : World} {r b n : Nat} {done : List Nat} (h : IterAt w r b n done) (hb : w1.heap[r]? = w.heap[r]?) : IterAt w1 r b n done := by
  obtain ⟨c0, h1, h2⟩ := h
  exact ⟨c0, hb.trans h1, h2⟩
theorem IterAt.lt {w : World} {r b n : Nat} {done : List Nat} (h : IterAt w r b n done) : r < w.heap.size := by
  obtain ⟨c0, h1, h2⟩ := h
  exact (Array.getElem?_eq_some_iff.1 h1).1
theorem wpList_range_at {w : World} (hg : o.guard = none) (m : Operand) (t : TypeId) (hop : o.op = Op.range t m) (k e : TypeId) (ht : P.underlying t = some (.map k e)) (b : Nat) (l : List (α × Value))
    (hm : a.eval m = .map (some b)) (h : MapAt w b key l)
    (hK : IterAt (w.alloc (.mapIter (some b) l.length #[] l.length)) w.heap.size b l.length [] → wpList P ops Q rest (a.put o.dst (.pointer (some ⟨w.heap.size, 0, none⟩))) (w.alloc (.mapIter (some b) l.length #[] l.length))) :
    wpList P ops Q (o :: rest) a w := by
  refine wpList_plain hg fun K' hK' => ?_
  have hrun : (Instr.range t (.map (some b))).run P w = .ok (.pointer (some ⟨w.heap.size, 0, none⟩)) (w.alloc (.mapIter (some b) l.length #[] l.length)) := by
    have hu : (underlying t).run P w = .ok (.map k e) w := run_underlying ht w
    simp only [Instr.range, Sem.run_bind, hu, Result.andThen, getObj, Sem.run, h.1]
    rfl
  unfold Oper.wp
  simp [execOp, hop, hm, hrun, Result.andThen]
  exact hK' _ _ (hK ⟨_, heap_alloc_new w _, Nat.le_refl _, List.nodup_nil, fun i hi => by cases hi⟩)
theorem born_entsFrom (key : α → Value) (l : List (α × Value)) : ∀ i, (entsFrom key i l).map (·.born) = List.range' i l.length := by
  induction l with
  | nil => intro i; rfl
  | cons p t ih => intro i; simp [entsFrom, ih, List.range'_succ]
theorem mem_entsFrom {key : α → Value} {l : List (α × Value)} {x : MapEntry} (h : x ∈ entsFrom key 0 l) : ∃ i p, l[i]? = some p ∧ x = ⟨key p.1, p.2, i⟩ := by
  obtain ⟨i, hi⟩ := List.getElem?_of_mem h
  rw [entsFrom_get] at hi
  cases hp : l[i]? with
  | none => rw [hp] at hi; cases hi
  | some p =>
    rw [hp] at hi
    simp only [Option.map_some, Option.some.injEq] at hi
    exact ⟨i, p, hp, by rw [← hi]; simp⟩
theorem wpList_next_at {w : World} (hg : o.guard = none) (it : Operand) (hop : o.op = Op.next it false) (b r : Nat) (l : List (α × Value)) (done : List Nat)
    (hit : a.eval it = .pointer (some ⟨r, 0, none⟩)) (h : MapAt w b key l) (hI : IterAt w r b l.length done)
    (hDone : (∀ i, i < l.length → i ∈ done) → wpList P ops Q rest (a.put o.dst (.tuple #[.bool false])) w)
    (hMore : ∀ (i : Nat) (p : α × Value) (w' : World), l[i]? = some p → i ∉ done → IterAt w' r b l.length (done ++ [i]) → w.grownBy w' (some r) → w'.heap.size = w.heap.size →
      (Instr.entry (.pointer (some ⟨r, 0, none⟩))).run P w' = .ok (.tuple #[key p.1, p.2]) w' → wpList P ops Q rest (a.put o.dst (.tuple #[.bool true, key p.1, p.2])) w') :
    wpList P ops Q (o :: rest) a w := by
  obtain ⟨c0, hr, hc0, hnd, hlt⟩ := hI
  refine wpList_plain hg fun K' hK' => ?_
  unfold Oper.wp
  have hold : ∀ x ∈ (entsFrom key 0 l).toArray.toList, x.born < l.length := by
    intro x hx
    obtain ⟨i, p, hp, rfl⟩ := mem_entsFrom (by simpa using hx)
    exact (List.getElem?_eq_some_iff.1 hp).1
  rcases run_next_at (P := P) w o.type r b l.length c0 done.toArray (entsFrom key 0 l).toArray l.length hr h.1 hold hc0 with ⟨h0, hrun⟩ | ⟨x, hx, w1, hw1, hrun⟩
  · simp [execOp, hop, hit, hrun, Result.andThen]
    refine hK' _ _ (hDone fun i hi => ?_)
    have hx : (⟨key (l[i]).1, (l[i]).2, i⟩ : MapEntry) ∈ (entsFrom key 0 l).toArray := by
      have := entsFrom_get key l 0 i
      rw [List.getElem?_eq_getElem hi] at this
      simp at this
      exact List.mem_toArray.2 (List.mem_of_getElem? this)
    unfold leftOf at h0
    rw [Array.size_eq_zero_iff, Array.filter_eq_empty_iff] at h0
    have := h0 _ hx
    simpa using this
  · have hx' := hx
    unfold leftOf at hx
    simp only [Array.toList_filter, List.mem_filter] at hx
    obtain ⟨hxm, hxd⟩ := hx
    obtain ⟨i, p, hp, rfl⟩ := mem_entsFrom (by simpa using hxm)
    simp at hxd
    have hb1 : w1.heap = w.heap := by rcases hw1 with rfl | rfl <;> rfl
    have hbr : b ≠ r := by
      rintro rfl
      rw [h.1] at hr
      cases hr
    have hrl : r < w1.heap.size := by rw [hb1]; exact (Array.getElem?_eq_some_iff.1 hr).1
    simp [execOp, hop, hit, hrun, Result.andThen]
    have hset : (setBlock w1 r (.mapIter (some b) l.length (done ++ [i]).toArray l.length)).heap[r]? = some (.mapIter (some b) l.length (done ++ [i]).toArray l.length) := setBlock_get hrl
    refine hK' _ _ (hMore i p _ hp (by simpa using hxd) ⟨l.length, hset, Nat.le_refl _, ?_, ?_⟩ ?_ (by rw [setBlock_size, hb1]) ?_)
    · rw [List.nodup_append]
      exact ⟨hnd, by simp, fun x hx y hy e => hxd (by rw [List.mem_singleton] at hy; rw [← hy, ← e]; exact hx)⟩
    · intro j hj
      rcases List.mem_append.1 hj with hj | hj
      · exact hlt j hj
      · rw [List.mem_singleton.1 hj]; exact (List.getElem?_eq_some_iff.1 hp).1
    · have hg1 := grownBy_setBlock w1 r (.mapIter (some b) l.length (done ++ [i]).toArray l.length)
      rcases hw1 with rfl | rfl
      · exact hg1
      · exact ⟨hg1.os, hg1.tape, hg1.output, hg1.size, hg1.block⟩
    · refine run_entry_at _ r b l.length done.toArray (entsFrom key 0 l).toArray l.length ⟨key p.1, p.2, i⟩ (by simpa using hset) ?_ hxm ?_
      · rw [setBlock_other hbr, hb1]; exact h.1
      · rw [List.toList_toArray, born_entsFrom]
        exact List.nodup_range'
end
end
end Go.Uc
