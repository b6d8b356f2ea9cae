import Derived.Maps.OwnOps
import Derived.Maps.RangeWalk
import Derived.Laws.StructEq
import Derived.WalkKit
import Derived.MapKept
import Derived.Below
/-! A map that the call made and wrote (no entry was ever struck), told as a list of its keys and values in the order of their laying. -/
namespace Go.Uc
open Go.Instr
open Go.ChangeMaps (setBlock)
open Go.RowKit
set_option linter.unusedSectionVars false
section
variable {α : Type} [DecidableEq α]
def entsFrom (key : α → Value) : Nat → List (α × Value) → List MapEntry
  | _, [] => []
  | i, p :: t => ⟨key p.1, p.2, i⟩ :: entsFrom key (i + 1) t
def MapAt (w : World) (b : Nat) (key : α → Value) (l : List (α × Value)) : Prop :=
  w.heap[b]? = some (.map (entsFrom key 0 l).toArray l.length) ∧ (l.map (·.1)).Nodup
def lk (a : α) : List (α × Value) → Nat → Option (Nat × Value)
  | [], _ => none
  | p :: t, i => if a = p.1 then some (i, p.2) else lk a t (i + 1)
def get (a : α) (l : List (α × Value)) : Option Value := (lk a l 0).map (·.2)
theorem entsFrom_get (key : α → Value) (l : List (α × Value)) : ∀ i j : Nat, (entsFrom key i l)[j]? = (l[j]?).map fun p => ⟨key p.1, p.2, i + j⟩ := by
  induction l with
  | nil => intro i j; simp [entsFrom]
  | cons p t ih =>
    intro i j
    cases j with
    | zero => simp [entsFrom]
    | succ j => simp [entsFrom, ih]; congr 1; funext q; simp; omega
/-- What a key's type must bear. -/
structure KeyLaw (P : Program) (k : TypeId) (key : α → Value) : Prop where
  chk : ∀ e w a, (checkKey e 10000 k (key a)).run P w = .ok () w
  same : ∀ a, sameBits 10000 (key a) (key a) = true
  find : ∀ a (l : List (α × Value)) w, (findKey k (key a) (entsFrom key 0 l)).run P w = .ok (lk a l 0) w
variable {P : Program} {k e t : TypeId} {key : α → Value}
theorem setBlock_get {w : World} {b : Nat} {o : Obj} (h : b < w.heap.size) : (setBlock w b o).heap[b]? = some o := by
  simp [setBlock, h]
theorem setBlock_other {w : World} {b i : Nat} {o : Obj} (h : i ≠ b) : (setBlock w b o).heap[i]? = w.heap[i]? := by
  simp [setBlock, Ne.symm h]
theorem setBlock_size {w : World} {b : Nat} {o : Obj} : (setBlock w b o).heap.size = w.heap.size := by
  simp [setBlock]
theorem MapAt.lt {w : World} {b : Nat} {l : List (α × Value)} (h : MapAt w b key l) : b < w.heap.size := (Array.getElem?_eq_some_iff.1 h.1).1
theorem MapAt.made (w : World) (key : α → Value) : MapAt (w.alloc (.map #[] 0)) w.heap.size key [] := by
  exact ⟨heap_alloc_new w (.map #[] 0), by simp⟩
theorem MapAt.same {w w1 : World} {b : Nat} {l : List (α × Value)} (h : MapAt w b key l) (hb : w1.heap[b]? = w.heap[b]?) : MapAt w1 b key l := ⟨hb.trans h.1, h.2⟩
theorem MapAt.alloc {w : World} {b : Nat} {l : List (α × Value)} (h : MapAt w b key l) (o : Obj) : MapAt (w.alloc o) b key l := h.same (Below.heap_alloc w o b h.lt)
theorem MapAt.below {w w1 : World} {b : Nat} {l : List (α × Value)} (h : MapAt w b key l) (hb : Below w.heap.size w w1) : MapAt w1 b key l := h.same (hb.block b h.lt)
theorem MapAt.grown {w w1 : World} {b : Nat} {l : List (α × Value)} (h : MapAt w b key l) {row : Option Nat} (hg : w.grownBy w1 row) (hne : some b ≠ row) : MapAt w1 b key l := h.same (hg.block b h.lt hne)
theorem get_lk {a : α} {l : List (α × Value)} : ∀ {i}, (lk a l i).map (·.2) = get a l := by
  unfold get
  induction l with
  | nil => intro i; rfl
  | cons p t ih =>
    intro i
    simp only [lk]
    split
    · rfl
    · rw [ih (i := i + 1), ih (i := 0 + 1)]
theorem run_lookup (K : KeyLaw P k key) (ht : P.underlying t = some (.map k e)) {w : World} {b : Nat} {l : List (α × Value)} (h : MapAt w b key l) (a : α) {z : Value} (hz : (zeroValue e).run P w = .ok z w) (ok : Bool) :
    (Instr.lookup t (.map (some b)) (key a) ok).run P w = .ok (if ok then .tuple #[(get a l).getD z, .bool (get a l).isSome] else (get a l).getD z) w := by
  obtain ⟨hb, hn⟩ := h
  have hu : (underlying t).run P w = .ok (.map k e) w := run_underlying ht w
  simp only [Instr.lookup, Sem.run_bind, hu, Result.andThen, getObj, Sem.run, hb, K.chk]
  simp only [Sem.run_pure, K.find]
  have hg := get_lk (a := a) (l := l) (i := 0)
  cases hl : lk a l 0 with
  | none =>
    rw [hl] at hg
    rw [← hg]
    simp only [Sem.run_bind, hz, Result.andThen]
    cases ok <;> rfl
  | some q =>
    rw [hl] at hg
    rw [← hg]
    cases ok <;> rfl
theorem findNow_int (q : IntKind) (a : Int) (l : List (Int × Value)) : ∀ i, findNow (.int q) (.int q a) (entsFrom (Value.int q) i l) i = some (lk a l i) := by
  induction l with
  | nil => intro i; rfl
  | cons p t ih =>
    intro i
    simp only [entsFrom, findNow, sameNow, if_true, lk]
    by_cases h : a = p.1
    · rw [if_pos h, beq_iff_eq.2 h]
    · rw [if_neg h, beq_eq_false_iff_ne.2 h]
      exact ih (i + 1)
theorem int_law {P : Program} {k : TypeId} {q : IntKind} (hk : P.underlying k = some (.int q)) : KeyLaw P k (Value.int q) where
  chk := fun e w a => by
    unfold checkKey
    simp [Sem.run_bind, run_underlying hk, Result.andThen]
  same := fun a => by simp [sameBits]
  find := fun a l w => by
    unfold findKey
    simp only [Sem.run_bind, run_underlying hk w, Result.andThen, findNow_int, Sem.run_pure]
theorem grownBy_setBlock (w : World) (b : Nat) (o : Obj) : w.grownBy (setBlock w b o) (some b) :=
  ⟨rfl, rfl, rfl, by rw [setBlock_size]; exact Nat.le_refl _, fun i hi hne => setBlock_other (fun e => hne (by rw [e]))⟩
section
variable {P : Program} {k e t : TypeId} {key : α → Value} {ops : Array Oper} {rest : List Oper} {o : Oper} {a : Act} {Q : Exit → Act → World → Prop}
theorem wpList_lookup_at {w : World} (hg : o.guard = none) (m x : Operand) (t : TypeId) (ok : Bool) (hop : o.op = Op.lookup t m x ok) (k e : TypeId) (K : KeyLaw P k key) (ht : P.underlying t = some (.map k e)) (b : Nat) (l : List (α × Value))
    (hm : a.eval m = .map (some b)) (h : MapAt w b key l) (c : α) (hx : a.eval x = key c) (z : Value) (hz : (zeroValue e).run P w = .ok z w)
    (hK : wpList P ops Q rest (a.put o.dst (if ok then .tuple #[(get c l).getD z, .bool (get c l).isSome] else (get c l).getD z)) w) :
    wpList P ops Q (o :: rest) a w := by
  refine wpList_plain hg fun K' hK' => ?_
  unfold Oper.wp
  simp [execOp, hop, hm, hx, run_lookup K ht h c hz, Result.andThen]
  exact hK' _ _ (by simpa using hK)
theorem wpList_look2 {w : World} (hg : o.guard = none) (m x : Operand) (t : TypeId) (hop : o.op = Op.lookup t m x true) (k e : TypeId) (K : KeyLaw P k key) (ht : P.underlying t = some (.map k e)) (b : Nat) (l : List (α × Value))
    (hm : a.eval m = .map (some b)) (h : MapAt w b key l) (c : α) (hx : a.eval x = key c) (z : Value) (hz : (zeroValue e).run P w = .ok z w) (v : Value) (hv : (get c l).getD z = v) (f : Bool) (hf : (get c l).isSome = f)
    (hK : wpList P ops Q rest (a.put o.dst (.tuple #[v, .bool f])) w) :
    wpList P ops Q (o :: rest) a w := wpList_lookup_at hg m x t true hop k e K ht b l hm h c hx z hz (by simpa [hv, hf] using hK)
/-- An iterator over that map, behind which the entries at the places 'done' have come. -/
def IterAt (w : World) (r b n : Nat) (done : List Nat) : Prop := ∃ c0, w.heap[r]? = some (.mapIter (some b) n done.toArray c0) ∧ n ≤ c0 ∧ done.Nodup ∧ ∀ i ∈ done, i < n
theorem wpList_range_at {w : World} (hg : o.guard = none) (m : Operand) (t : TypeId) (hop : o.op = Op.range t m) (k e : TypeId) (ht : P.underlying t = some (.map k e)) (b : Nat) (l : List (α × Value))
    (hm : a.eval m = .map (some b)) (h : MapAt w b key l)
    (hK : IterAt (w.alloc (.mapIter (some b) l.length #[] l.length)) w.heap.size b l.length [] → wpList P ops Q rest (a.put o.dst (.pointer (some ⟨w.heap.size, 0, none⟩))) (w.alloc (.mapIter (some b) l.length #[] l.length))) :
    wpList P ops Q (o :: rest) a w := by
  refine wpList_plain hg fun K' hK' => ?_
  have hrun : (Instr.range t (.map (some b))).run P w = .ok (.pointer (some ⟨w.heap.size, 0, none⟩)) (w.alloc (.mapIter (some b) l.length #[] l.length)) := by
    have hu : (underlying t).run P w = .ok (.map k e) w := run_underlying ht w
    simp only [Instr.range, Sem.run_bind, hu, Result.andThen, getObj, Sem.run, h.1]
    rfl
  unfold Oper.wp
  simp [execOp, hop, hm, hrun, Result.andThen]
  exact hK' _ _ (hK ⟨_, heap_alloc_new w _, Nat.le_refl _, List.nodup_nil, fun i hi => by cases hi⟩)
theorem born_entsFrom (key : α → Value) (l : List (α × Value)) : ∀ i, (entsFrom key i l).map (·.born) = List.range' i l.length := by
  induction l with
  | nil => intro i; rfl
  | cons p t ih => intro i; simp [entsFrom, ih, List.range'_succ]
theorem mem_entsFrom {key : α → Value} {l : List (α × Value)} {x : MapEntry} (h : x ∈ entsFrom key 0 l) : ∃ i p, l[i]? = some p ∧ x = ⟨key p.1, p.2, i⟩ := by
  obtain ⟨i, hi⟩ := List.getElem?_of_mem h
  rw [entsFrom_get] at hi
  cases hp : l[i]? with
  | none => rw [hp] at hi; cases hi
  | some p =>
    rw [hp] at hi
    simp only [Option.map_some, Option.some.injEq] at hi
    exact ⟨i, p, hp, by rw [← hi]; simp⟩
theorem wpList_next_at {w : World} (hg : o.guard = none) (it : Operand) (hop : o.op = Op.next it false) (b r : Nat) (l : List (α × Value)) (done : List Nat)
    (hit : a.eval it = .pointer (some ⟨r, 0, none⟩)) (h : MapAt w b key l) (hI : IterAt w r b l.length done)
    (hDone : (∀ i, i < l.length → i ∈ done) → wpList P ops Q rest (a.put o.dst (.tuple #[.bool false])) w)
    (hMore : ∀ (i : Nat) (p : α × Value) (w' : World), l[i]? = some p → i ∉ done → IterAt w' r b l.length (done ++ [i]) → w.grownBy w' (some r) → w'.heap.size = w.heap.size →
      (Instr.entry (.pointer (some ⟨r, 0, none⟩))).run P w' = .ok (.tuple #[key p.1, p.2]) w' → wpList P ops Q rest (a.put o.dst (.tuple #[.bool true, key p.1, p.2])) w') :
    wpList P ops Q (o :: rest) a w := by
  obtain ⟨c0, hr, hc0, hnd, hlt⟩ := hI
  refine wpList_plain hg fun K' hK' => ?_
  unfold Oper.wp
  have hold : ∀ x ∈ (entsFrom key 0 l).toArray.toList, x.born < l.length := by
    intro x hx
    obtain ⟨i, p, hp, rfl⟩ := mem_entsFrom (by simpa using hx)
    exact (List.getElem?_eq_some_iff.1 hp).1
  rcases run_next_at (P := P) w o.type r b l.length c0 done.toArray (entsFrom key 0 l).toArray l.length hr h.1 hold hc0 with ⟨h0, hrun⟩ | ⟨x, hx, w1, hw1, hrun⟩
  · simp [execOp, hop, hit, hrun, Result.andThen]
    refine hK' _ _ (hDone fun i hi => ?_)
    have hx : (⟨key (l[i]).1, (l[i]).2, i⟩ : MapEntry) ∈ (entsFrom key 0 l).toArray := by
      have := entsFrom_get key l 0 i
      rw [List.getElem?_eq_getElem hi] at this
      simp at this
      exact List.mem_toArray.2 (List.mem_of_getElem? this)
    unfold leftOf at h0
    rw [Array.size_eq_zero_iff, Array.filter_eq_empty_iff] at h0
    have := h0 _ hx
    simpa using this
  · have hx' := hx
    unfold leftOf at hx
    simp only [Array.toList_filter, List.mem_filter] at hx
    obtain ⟨hxm, hxd⟩ := hx
    obtain ⟨i, p, hp, rfl⟩ := mem_entsFrom (by simpa using hxm)
    simp at hxd
    have hb1 : w1.heap = w.heap := by rcases hw1 with rfl | rfl <;> rfl
    have hbr : b ≠ r := by
      rintro rfl
      rw [h.1] at hr
      cases hr
    have hrl : r < w1.heap.size := by rw [hb1]; exact (Array.getElem?_eq_some_iff.1 hr).1
    simp [execOp, hop, hit, hrun, Result.andThen]
    have hset : (setBlock w1 r (.mapIter (some b) l.length (done ++ [i]).toArray l.length)).heap[r]? = some (.mapIter (some b) l.length (done ++ [i]).toArray l.length) := setBlock_get hrl
    refine hK' _ _ (hMore i p _ hp (by simpa using hxd) ⟨l.length, hset, Nat.le_refl _, ?_, ?_⟩ ?_ (by rw [setBlock_size, hb1]) ?_)
    · rw [List.nodup_append]
      exact ⟨hnd, by simp, fun x hx y hy e => hxd (by rw [List.mem_singleton] at hy; rw [← hy, ← e]; exact hx)⟩
    · intro j hj
      rcases List.mem_append.1 hj with hj | hj
      · exact hlt j hj
      · rw [List.mem_singleton.1 hj]; exact (List.getElem?_eq_some_iff.1 hp).1
    · have hg1 := grownBy_setBlock w1 r (.mapIter (some b) l.length (done ++ [i]).toArray l.length)
      rcases hw1 with rfl | rfl
      · exact hg1
      · exact ⟨hg1.os, hg1.tape, hg1.output, hg1.size, hg1.block⟩
    · refine run_entry_at _ r b l.length done.toArray (entsFrom key 0 l).toArray l.length ⟨key p.1, p.2, i⟩ (by simpa using hset) ?_ hxm ?_
      · rw [setBlock_other hbr, hb1]; exact h.1
      · rw [List.toList_toArray, born_entsFrom]
        exact List.nodup_range'
end
end
end Go.Uc
