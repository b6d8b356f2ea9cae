/- cpset.combine walked: the union. -/
import Derived.Test.YtjfcmiocmcdjlaaGreatDoorAIt4
import Derived.Sort.OwnSortedInts
namespace Go.Proofs.YtjfcmiocmcdjlaaGreatDoor.G
open Go.RowKit Go.Shelf Go.Proofs.YtjfcmiocmcdjlaaGreatDoorW.PrintWords Go.Proofs.YtjfcmiocmcdjlaaGreatDoorW.PrintLast Go.Proofs.YtjfcmiocmcdjlaaGreatDoorW.PrintMore
attribute [local go_sem] Oper.semAt_some
set_option linter.unusedVariables false
def flatC (xs : List S32) : List Int := xs.flatMap fun r => [r.f0, r.f1 + 1]
theorem flatC_snoc (xs : List S32) (x : S32) : flatC (xs ++ [x]) = flatC xs ++ [x.f0, x.f1 + 1] := by simp [flatC]
theorem flatC_length (xs : List S32) : (flatC xs).length = 2 * xs.length := by
  induction xs with
  | nil => rfl
  | cons x t ih => simp [flatC] at ih ⊢; omega
theorem make_bounds {l : List S32} {x : S32} (h : x ∈ makeL l) : 0 ≤ x.f0 ∧ x.f0 ≤ x.f1 ∧ x.f1 ≤ 1114111 := by
  have key : ∀ {t : List (Int × Int)} {m : Int}, UcSets.canonFrom m t → ∀ r ∈ t, m ≤ r.1 ∧ r.1 ≤ r.2 ∧ r.2 ≤ 1114111 := by
    intro t
    induction t with
    | nil => intro m _ r hr; cases hr
    | cons q t ih =>
      rintro m ⟨h1, h2, h3, h4⟩ r hr
      rcases List.mem_cons.1 hr with rfl | hr
      · exact ⟨h1, h2, h3⟩
      · have := ih h4 r hr
        exact ⟨by omega, this.2.1, this.2.2⟩
  exact key (makeL_canon l) (toP x) (List.mem_map_of_mem h)
theorem ownI_not {W : World} {base : Nat} {v : Value} {k : Nat} {ys : List Value} (h : W.ownsRow base 3 1 v k ys) {j : Nat} {o : Obj} (hj : W.heap[j]? = some o) (hno : ∀ cur, o ≠ .cells cur 3 (0, 0)) : some j ≠ v.ownBlock := by
  rcases h.2 with ⟨rfl, _⟩ | ⟨g, cap, cur, rfl, _, hgb, _⟩
  · simp [Value.ownBlock]
  · intro e
    have : g = j := by simpa [Value.ownBlock] using e.symm
    subst this; rw [hgb] at hj; cases hj; exact hno cur rfl
theorem ownI_size {W : World} {base : Nat} {v : Value} {k : Nat} {ys : List Value} (h : W.ownsRow base 3 1 v k ys) : ∀ b, v.ownBlock = some b → base ≤ b ∧ b < W.heap.size := by
  intro b e
  rcases h.2 with ⟨rfl, _⟩ | ⟨g, cap, cur, rfl, hb, hgb, _⟩
  · simp [Value.ownBlock] at e
  · have : g = b := by simpa [Value.ownBlock] using e
    subst this
    exact ⟨hb, (Array.getElem?_eq_some_iff.1 hgb).1⟩
theorem ownI_below {W W' : World} {base : Nat} {v : Value} {k : Nat} {ys : List Value} (h : W.ownsRow base 3 1 v k ys) (hB : Below W.heap.size W W') : W'.ownsRow base 3 1 v k ys := by
  refine ⟨h.1, ?_⟩
  rcases h.2 with h0 | ⟨g, cap, cur, rfl, hb, hgb, hr⟩
  · exact .inl h0
  · exact .inr ⟨g, cap, cur, rfl, hb, (hB.block g (Array.getElem?_eq_some_iff.1 hgb).1).trans hgb, hr⟩
theorem ownI_cells {W : World} {base : Nat} {v : Value} {k : Nat} {ys : List Value} (h : W.ownsRow base 3 1 v k ys) {j : Nat} {o : Obj} (hj : v.ownBlock = some j) (ho : W.heap[j]? = some o) : o.isCells = true := by
  rcases h.2 with ⟨rfl, _⟩ | ⟨g0, cap0, cur0, rfl, _, hgb, _⟩
  · simp [Value.ownBlock] at hj
  · have : g0 = j := by simpa [Value.ownBlock] using hj
    subst this
    rw [hgb] at ho
    cases ho
    rfl
theorem cells_two_ints (w : World) (a b : Int) : ∀ j u, ([Value.int .i64 a, .int .i64 b] : List Value)[j]? = some u → (w.alloc (.cells #[.int .i64 a, .int .i64 b] 3)).cell? ((⟨w.heap.size, 0, none⟩ : Addr).add j) = some u := by
  intro j u hj
  match j, hj with
  | 0, hj =>
    simp at hj
    subst hj
    simp [Addr.add]
  | 1, hj =>
    simp at hj
    subst hj
    simp [Addr.add]
  | j + 2, hj => simp at hj
set_option maxRecDepth 100000 in
theorem build27 (a b : Int) (w : World) : (Instr.buildSlice 27 2 #[(0, .int .i64 a), (1, .int .i64 b)]).run Tryz.prog w = .ok (.slice (some ⟨w.heap.size, 0, none⟩) 2 2) (w.alloc (.cells #[.int .i64 a, .int .i64 b] 3)) := by
  have u27 := run_underlying Tryz.underlying27
  have s3 : ∀ W, (Go.sizeOf 3).run Tryz.prog W = .ok 1 W := fun W => by kernel_rfl
  have z3 : ∀ W, (zeroValue 3).run Tryz.prog W = .ok (.int .i64 0) W := fun W => by kernel_rfl
  simp [Instr.buildSlice, u27, s3, z3, go_sem]
theorem wpListIn_build2 {F : Fence} {n : Nat} (w : World) {ops : Array Oper} {rest : List Oper} {o : Oper} {act : Act} {Q : Exit → Act → World → Prop} (hg : o.guard = none) (x y : Operand)
    (hop : o.op = .buildSlice 27 2 #[(0, x), (1, y)]) (a b : Int) (hx : act.eval x = .int .i64 a) (hy : act.eval y = .int .i64 b)
    (h : wpListIn F n Tryz.prog ops Q rest (act.put o.dst (.slice (some ⟨w.heap.size, 0, none⟩) 2 2)) (w.alloc (.cells #[.int .i64 a, .int .i64 b] 3))) :
    wpListIn F n Tryz.prog ops Q (o :: rest) act w := by
  refine wpListIn_plain hg fun K hK => ?_
  unfold Oper.wpIn
  refine ⟨by simp [Oper.about, hop], ?_⟩
  rw [Oper.semAt_plain F _ _ (by rw [hop]; intro c hc'; cases hc')]
  have he : (execOp act.eval o).run Tryz.prog w = .ok (.value (.slice (some ⟨w.heap.size, 0, none⟩) 2 2)) (w.alloc (.cells #[.int .i64 a, .int .i64 b] 3)) := by
    simp only [execOp, hop, List.map_toArray, List.map_cons, List.map_nil, hx, hy]
    rw [Sem.run_bind, build27]
    rfl
  rw [he]
  exact hK _ _ h
theorem store27 (B g len cap : Nat) (old : Value) (w : World) (hc : w.cell? ⟨B, 0, none⟩ = some old) (hf : w.frozen? ⟨B, 0, none⟩ = false) :
    (Instr.storeAt 27 (.pointer (some ⟨B, 0, none⟩)) (.slice (some ⟨g, 0, none⟩) len cap)).run Tryz.prog w = .ok () (w.setCell ⟨B, 0, none⟩ (.slice (some ⟨g, 0, none⟩) len cap)) := by
  simp [go_sem, Instr.storeAt, hc, hf]
theorem wpListIn_store27 {F : Fence} {n : Nat} {w : World} {ops : Array Oper} {rest : List Oper} {o : Oper} {act : Act} {Q : Exit → Act → World → Prop} (hg : o.guard = none) (hd : o.dst = none) (x y : Operand)
    (hop : o.op = .store 27 x y) (B g len cap : Nat) (old : Value) (hx : act.eval x = .pointer (some ⟨B, 0, none⟩)) (hy : act.eval y = .slice (some ⟨g, 0, none⟩) len cap) (hc : w.cell? ⟨B, 0, none⟩ = some old) (hf : w.frozen? ⟨B, 0, none⟩ = false)
    (h : wpListIn F n Tryz.prog ops Q rest act (w.setCell ⟨B, 0, none⟩ (.slice (some ⟨g, 0, none⟩) len cap))) :
    wpListIn F n Tryz.prog ops Q (o :: rest) act w := by
  refine wpListIn_plain hg fun K hK => ?_
  unfold Oper.wpIn
  refine ⟨by simp [Oper.about, hop], ?_⟩
  rw [Oper.semAt_plain F _ _ (by rw [hop]; intro c hc'; cases hc')]
  have he : (execOp act.eval o).run Tryz.prog w = .ok .skip (w.setCell ⟨B, 0, none⟩ (.slice (some ⟨g, 0, none⟩) len cap)) := by
    simp only [execOp, hop, hx, hy]
    rw [Sem.run_bind, store27 B g len cap old w hc hf]
    rfl
  rw [he]
  exact hK _ _ (by rw [hd]; exact h)
def sortI (l : List Int) : List Int := l.mergeSort fun x y => decide (x ≤ y)
theorem sortI_perm (l : List Int) : (sortI l).Perm l := List.mergeSort_perm l _
theorem sortI_length (l : List Int) : (sortI l).length = l.length := (sortI_perm l).length_eq
theorem sortI_sorted (l : List Int) : (sortI l).Pairwise (fun a b => a ≤ b) := by
  have h := List.pairwise_mergeSort (le := fun x y : Int => decide (x ≤ y)) (by simp; omega) (by simp; omega) l
  exact h.imp (by simp)
/-- slices.Sort at a row of one's own. -/
theorem sort55 {base : Nat} {v : Value} {xs : List Int} {w : World} (ho : w.ownsRow base 3 1 v xs.length (xs.map (Value.int .i64))) (hl : xs.length < 4611686018427387904) :
    Calls Tryz.prog 55 #[v] w fun e w' => e = .returned (.tuple #[]) ∧ w'.ownsRow base 3 1 v xs.length ((sortI xs).map (Value.int .i64)) ∧ w.grownBy w' v.ownBlock := by
  rcases ho.2 with ⟨rfl, h0⟩ | ⟨g, cap, cur, rfl, hb, hg, hn, hcap, hsz, ht⟩
  · have hx : xs = [] := List.length_eq_zero_iff.1 h0
    subst hx
    refine (Tryz.slices_Sort_int_none none 0 w).mono ?_
    rintro e w' ⟨rfl, rfl⟩
    have e : sortI [] = [] := by simp [sortI]
    exact ⟨rfl, by rw [e]; exact ho, ⟨rfl, rfl, rfl, Nat.le_refl _, fun _ _ _ => rfl⟩⟩
  · have ht' : cur.toList.take xs.length = xs.map (Value.int .i64) := by simpa using ht
    refine (Tryz.slices_Sort_int g 0 cap xs w (holds_of_blockI hg ht') (Array.getElem?_eq_some_iff.1 hg).1 hl).mono ?_
    rintro e w' ⟨rfl, n, os, rfl⟩
    refine ⟨rfl, ?_, grownBy_sortedI _⟩
    exact ownsRow_sortedI (n := n) (os := os) (ss := xs) (ts := sortI xs) (sortI_length xs) hb hg hn hcap hsz
/-- The state of combine between two rounds. -/
structure CombI (w : World) (sa sb : Value) (W : World) : Prop where
  below : Below w.heap.size w W
  a : W.heap[w.heap.size]? = some (.cells #[sa] 24 (0, 0))
  b : W.heap[w.heap.size + 1]? = some (.cells #[sb] 24 (0, 0))
  o : W.heap[w.heap.size + 2]? = some (.cells #[.slice none 0 0] 24 (0, 0))
  sets : W.heap[w.heap.size + 5]? = some (.cells #[sa, sb] 24 (0, 0))
  size : w.heap.size + 6 ≤ W.heap.size
def CutsAt (w : World) (pre : List Int) (v : Value) (W : World) : Prop :=
  W.heap[w.heap.size + 4]? = some (.cells #[v] 27 (0, 0)) ∧ W.ownsRow w.heap.size 3 1 v pre.length (pre.map (Value.int .i64))
theorem CombI.later {w : World} {sa sb : Value} {W W' : World} (h : CombI w sa sb W) (hB : Below W.heap.size W W') : CombI w sa sb W' := by
  have hs := h.size
  exact ⟨h.below.trans (hB.mono h.below.size), (hB.block _ (by omega)).trans h.a, (hB.block _ (by omega)).trans h.b, (hB.block _ (by omega)).trans h.o, (hB.block _ (by omega)).trans h.sets, Nat.le_trans hs hB.size⟩
theorem CombI.turned {w : World} {sa sb : Value} {W W' : World} {row : Option Nat} (h : CombI w sa sb W) (hg : W.grownBy W' row) (hr : ∀ r, row = some r → w.heap.size ≤ r ∧ r ≠ w.heap.size ∧ r ≠ w.heap.size + 1 ∧ r ≠ w.heap.size + 2 ∧ r ≠ w.heap.size + 5) (hsz : W.heap.size ≤ W'.heap.size) : CombI w sa sb W' := by
  have hs := h.size
  have ne : ∀ k, (∀ r, row = some r → r ≠ k) → some k ≠ row := fun k hk e => hk k e.symm rfl
  exact ⟨h.below.grown hg h.below.size (fun k e => (hr k e).1), (hg.block _ (by omega) (ne _ (fun r e => (hr r e).2.1))).trans h.a, (hg.block _ (by omega) (ne _ (fun r e => (hr r e).2.2.1))).trans h.b, (hg.block _ (by omega) (ne _ (fun r e => (hr r e).2.2.2.1))).trans h.o, (hg.block _ (by omega) (ne _ (fun r e => (hr r e).2.2.2.2))).trans h.sets, by omega⟩
theorem CutsAt.later {w : World} {pre : List Int} {v : Value} {W W' : World} (h : CutsAt w pre v W) (hB : Below W.heap.size W W') : CutsAt w pre v W' :=
  ⟨(hB.block _ (Array.getElem?_eq_some_iff.1 h.1).1).trans h.1, ownI_below h.2 hB⟩
theorem CombI.sorted {w : World} {sa sb : Value} {W W' : World} {pre : List Int} {v : Value} (h : CombI w sa sb W) (hC : CutsAt w pre v W) (hg : W.grownBy W' v.ownBlock) :
    CombI w sa sb W' ∧ W'.heap[w.heap.size + 4]? = some (.cells #[v] 27 (0, 0)) ∧ ∀ D : Nat, W.heap[D]? = some (.deferred (some [])) → W'.heap[D]? = some (.deferred (some [])) := by
  have keep : ∀ (k : Nat) (o : Obj), W.heap[k]? = some o → (∀ cur, o ≠ .cells cur 3 (0, 0)) → W'.heap[k]? = some o := fun k o ho hno => (hg.block k (Array.getElem?_eq_some_iff.1 ho).1 (ownI_not hC.2 ho hno)).trans ho
  have hsz := ownI_size hC.2
  refine ⟨⟨h.below.grown hg h.below.size (fun k e => (hsz k e).1), keep _ _ h.a (fun cur e => by cases e), keep _ _ h.b (fun cur e => by cases e), keep _ _ h.o (fun cur e => by cases e), keep _ _ h.sets (fun cur e => by cases e), Nat.le_trans h.size hg.size⟩, keep _ _ hC.1 (fun cur e => by cases e), fun D hD => keep _ _ hD (fun cur e => by cases e)⟩
/-- What is kept while one set's ranges come into the cuts. -/
def RangeI (w : World) (sa sb : Value) (pre0 : List Int) (Ds : List Nat) (b0 : Nat) (pre : List S32) (W : World) : Prop :=
  CombI w sa sb W ∧ (∀ D ∈ Ds, W.heap[D]? = some (.deferred (some []))) ∧ ∃ v, CutsAt w (pre0 ++ flatC pre) v W ∧ v.ownBlock ≠ some b0
theorem RangeI.later {w : World} {sa sb : Value} {pre0 : List Int} {Ds : List Nat} {b0 : Nat} {s : List S32} {A B : World} (h : RangeI w sa sb pre0 Ds b0 s A) (hAB : Below A.heap.size A B) : RangeI w sa sb pre0 Ds b0 s B := by
  obtain ⟨h1, h2, v, h3, h4⟩ := h
  exact ⟨h1.later hAB, fun D hD => (hAB.block _ (Array.getElem?_eq_some_iff.1 (h2 D hD)).1).trans (h2 D hD), v, h3.later hAB, h4⟩
theorem RangeI.putObj {w : World} {sa sb : Value} {pre0 : List Int} {Ds : List Nat} {b0 : Nat} {s : List S32} {A : World} {lo : Nat} (hlo : w.heap.size + 6 ≤ lo) (hDs : ∀ D ∈ Ds, D < lo) (l : Nat) (o o' : Obj) (h : RangeI w sa sb pre0 Ds b0 s A) (hl : lo ≤ l) (ho : A.heap[l]? = some o) (hoc : o.isCells = false) : RangeI w sa sb pre0 Ds b0 s (A.putObj l o') := by
  obtain ⟨h1, h2, v, h3, h4⟩ := h
  have hg := grownBy_putObj' A l o'
  refine ⟨h1.turned hg (fun r e => by cases e; omega) hg.size, fun D hD => (World.putObj_heap_other (by have := hDs D hD; omega)).trans (h2 D hD), v, ⟨(World.putObj_heap_other (by omega)).trans h3.1, h3.2.kept hg (.inr (fun e => ?_))⟩, h4⟩
  exact ownI_not (o := o) h3.2 ho (fun cur e => by subst e; simp [Obj.isCells] at hoc) e.symm
theorem round_end {w : World} {sa sb : Value} {pre0 : List Int} {Ds : List Nat} {b0 : Nat} {pre : List S32} {x : S32} {W2 w1 : World} {v : Value} {g' cap' : Nat} {a : Act}
    (hI2 : CombI w sa sb W2) (hD2 : ∀ D ∈ Ds, W2.heap[D]? = some (.deferred (some []))) (hCt : CutsAt w (pre0 ++ flatC pre) v W2) (hne : v.ownBlock ≠ some b0) (hb0 : b0 < W2.heap.size) (hb0' : w.heap.size + 6 ≤ b0)
    (hown' : w1.ownsRow w.heap.size 3 1 (.slice (some ⟨g', 0, none⟩) ((pre0 ++ flatC pre).length + 2) cap') ((pre0 ++ flatC pre).length + 2) ((pre0 ++ flatC pre).map (Value.int .i64) ++ [.int .i64 x.f0, .int .i64 (x.f1 + 1)]))
    (hgrow : (W2.alloc (.cells #[.int .i64 x.f0, .int .i64 (x.f1 + 1)] 3)).grownBy w1 v.ownBlock) (hat : some g' = v.ownBlock ∨ g' = (W2.alloc (.cells #[.int .i64 x.f0, .int .i64 (x.f1 + 1)] 3)).heap.size) :
    postB w.heap.size b0 (RangeI w sa sb pre0 Ds b0 (pre ++ [x])) W2 .normal a (w1.setCell ⟨w.heap.size + 4, 0, none⟩ (.slice (some ⟨g', 0, none⟩) ((pre0 ++ flatC pre).length + 2) cap')) := by
  have hsz := hI2.size
  have hown := ownI_size hCt.2
  have hal : ∀ k, k < W2.heap.size → (W2.alloc (.cells #[.int .i64 x.f0, .int .i64 (x.f1 + 1)] 3)).heap[k]? = W2.heap[k]? := fun k hk => Below.heap_alloc _ _ k hk
  have keep : ∀ (k : Nat) (o : Obj), W2.heap[k]? = some o → (∀ cur, o ≠ .cells cur 3 (0, 0)) → w1.heap[k]? = some o := fun k o ho hno =>
    (hgrow.block k (by have := (Array.getElem?_eq_some_iff.1 ho).1; simp; omega) (ownI_not hCt.2 ho hno)).trans ((hal k (Array.getElem?_eq_some_iff.1 ho).1).trans ho)
  have hset : ∀ (k : Nat), k ≠ w.heap.size + 4 → (w1.setCell ⟨w.heap.size + 4, 0, none⟩ (.slice (some ⟨g', 0, none⟩) ((pre0 ++ flatC pre).length + 2) cap')).heap[k]? = w1.heap[k]? := fun k hk => Below.heap_setCell _ _ _ k hk
  have hBW : Below w.heap.size W2 w1 := ((Below.refl _ W2).alloc (by omega) _).grown hgrow (by simp; omega) (fun k e => (hown k e).1)
  have hBW' : Below w.heap.size W2 (w1.setCell ⟨w.heap.size + 4, 0, none⟩ (.slice (some ⟨g', 0, none⟩) ((pre0 ++ flatC pre).length + 2) cap')) := hBW.setCell (p := ⟨w.heap.size + 4, 0, none⟩) (by show w.heap.size ≤ w.heap.size + 4; omega) _
  have hv1 : w1.heap[w.heap.size + 4]? = some (.cells #[v] 27 (0, 0)) := keep _ _ hCt.1 (fun cur e => by cases e)
  have hb0k : w1.heap[b0]? = W2.heap[b0]? := (hgrow.block b0 (by simp; omega) (fun e => hne e.symm)).trans (hal b0 hb0)
  refine ⟨((KeepsOthers.alloc W2 _).trans (KeepsOthers.of_grownBy hgrow (fun j o hj ho => ?_))).trans (KeepsOthers.setCell _ _ _), hBW', (hset b0 (by omega)).trans hb0k, ⟨hI2.below.trans hBW', ?_, ?_, ?_, ?_, ?_⟩, ?_, .slice (some ⟨g', 0, none⟩) ((pre0 ++ flatC pre).length + 2) cap', ⟨?_, ?_⟩, ?_⟩
  · have hj2 := (hown j hj).2
    rw [hal j hj2] at ho
    exact ownI_cells hCt.2 hj ho
  · exact (hset _ (by omega)).trans (keep _ _ hI2.a (fun cur e => by cases e))
  · exact (hset _ (by omega)).trans (keep _ _ hI2.b (fun cur e => by cases e))
  · exact (hset _ (by omega)).trans (keep _ _ hI2.o (fun cur e => by cases e))
  · exact (hset _ (by omega)).trans (keep _ _ hI2.sets (fun cur e => by cases e))
  · have := hBW'.size; omega
  · intro D hD
    have hDh := hD2 D hD
    have hk := keep D _ hDh (fun cur e => by cases e)
    refine (hset D (fun e => ?_)).trans hk
    subst e
    rw [hCt.1] at hDh
    cases hDh
  · exact Boxed.set _ hv1
  · have := hown'.kept (grownBy_setCell' w1 (w.heap.size + 4) (.slice (some ⟨g', 0, none⟩) ((pre0 ++ flatC pre).length + 2) cap')) (.inr (fun e => ownI_not hown' hv1 (fun cur e => by cases e) e.symm))
    have e1 : pre0 ++ flatC (pre ++ [x]) = (pre0 ++ flatC pre) ++ [x.f0, x.f1 + 1] := by rw [flatC_snoc, List.append_assoc]
    have e2 : ((pre0 ++ flatC pre) ++ [x.f0, x.f1 + 1]).length = (pre0 ++ flatC pre).length + 2 := by simp; omega
    rw [e1, e2, List.map_append]
    exact this
  · rcases hat with hat | hat
    · rw [← hat] at hne
      exact hne
    · subst hat
      simp [Value.ownBlock]
      omega
theorem cuts_C {W : World} {base : Nat} {v : Value} {S : List Int} (h : W.ownsRow base 3 1 v S.length (S.map (Value.int .i64))) : ∃ A c, v = .slice A S.length c ∧ Kd.C (Kd.int .i64) W A S.length S ∧ S.length ≤ c := by
  have hR : Kd.R (Kd.int .i64) 3 W base (fun _ => True) v S := Kd.R_of_own (by simpa [encs] using h) (fun _ _ => trivial)
  obtain ⟨A, c, rfl⟩ := Kd.R_slice hR
  have := Kd.R_reads' hR
  exact ⟨A, c, rfl, this.2.2, this.2.1⟩
def pieceAt (inn : Int → Bool) (S : List Int) (j : Nat) : List S32 := if S.getD j 0 ≤ S.getD (j + 1) 0 - 1 ∧ inn (S.getD j 0) = true then [⟨S.getD j 0, S.getD (j + 1) 0 - 1⟩] else []
def piecesL (inn : Int → Bool) (S : List Int) (k : Nat) : List S32 := (List.range k).flatMap (pieceAt inn S)
theorem pieces_succ (inn : Int → Bool) (S : List Int) (k : Nat) : piecesL inn S (k + 1) = piecesL inn S k ++ pieceAt inn S k := by simp [piecesL, List.range_succ]
theorem pieces_len (inn : Int → Bool) (S : List Int) (k : Nat) : (piecesL inn S k).length ≤ k := by
  induction k with
  | zero => simp [piecesL]
  | succ k ih =>
    rw [pieces_succ, List.length_append]
    have : (pieceAt inn S k).length ≤ 1 := by unfold pieceAt; split <;> simp
    omega
theorem or46 (x y : Bool) (w : World) : Calls Tryz.prog 46 #[.bool x, .bool y] w fun e w' => e = .returned (.bool (x || y)) ∧ w' = w := by
  go_enter Tryz.func46, Tryz.ntmps46
  cases x with
  | true =>
    go_wp2_with fail
    go_ret
    exact ⟨rfl, rfl⟩
  | false =>
    go_wp2_with fail
    go_ret
    exact ⟨by simp, rfl⟩
theorem cuts_bounds {l m : List S32} : ∀ x ∈ sortI (([0, 1114112] ++ flatC (makeL l)) ++ flatC (makeL m)), 0 ≤ x ∧ x ≤ 1114112 := by
  have key : ∀ (l : List S32) x, x ∈ flatC (makeL l) → 0 ≤ x ∧ x ≤ 1114112 := by
    intro l x hx
    obtain ⟨r, hr, hx⟩ := List.mem_flatMap.1 hx
    have hb := make_bounds hr
    rcases List.mem_cons.1 hx with rfl | hx
    · omega
    · obtain rfl := List.mem_singleton.1 hx
      omega
  intro x hx
  have hx := (sortI_perm _).mem_iff.1 hx
  rcases List.mem_append.1 hx with hx | hx
  · rcases List.mem_append.1 hx with hx | hx
    · simp at hx
      omega
    · exact key l x hx
  · exact key m x hx
def cutsC (l m : List S32) : List Int := sortI (([0, 1114112] ++ flatC (makeL l)) ++ flatC (makeL m))
/-- The union, as the program makes it. -/
def orL (l m : List S32) : List S32 := makeL (piecesL (fun x => hasR l x || hasR m x) (cutsC l m) ((cutsC l m).length - 1))
theorem comb_end {w W9 : World} {P : Program} {D D2 : Nat} {vF : Value} {n : Nat} {ys : List Value} (ho9 : W9.heap[w.heap.size + 1 + 1]? = some (.cells #[.slice none 0 0] 24 (0, 0))) (hD9 : W9.heap[D]? = some (.deferred (some []))) (hD29 : W9.heap[D2]? = some (.deferred (some [])))
    (hDD : D ≠ D2) (hDs : w.heap.size ≤ D) (hD2s : w.heap.size ≤ D2) (hown : W9.ownsRow w.heap.size 32 2 vF n ys) (hB : Below w.heap.size w W9) :
    ∃ X1 X2 : World, (Instr.takeDeferred D2).run P (W9.setCell ⟨w.heap.size + 1 + 1, 0, none⟩ vF) = .ok [] X1 ∧ (Instr.takeDeferred D).run P X1 = .ok [] X2 ∧ X2.cell? ⟨w.heap.size + 1 + 1, 0, none⟩ = some vF ∧ X2.ownsRow w.heap.size 32 2 vF n ys ∧ Below w.heap.size w X2 := by
  have hne1 : D ≠ w.heap.size + 1 + 1 := fun e => by subst e; rw [ho9] at hD9; cases hD9
  have hne2 : D2 ≠ w.heap.size + 1 + 1 := fun e => by subst e; rw [ho9] at hD29; cases hD29
  have hset : ∀ (k : Nat), k ≠ w.heap.size + 1 + 1 → (W9.setCell ⟨w.heap.size + 1 + 1, 0, none⟩ vF).heap[k]? = W9.heap[k]? := fun k hk => Below.heap_setCell _ _ _ k hk
  have hbox : (W9.setCell ⟨w.heap.size + 1 + 1, 0, none⟩ vF).heap[w.heap.size + 1 + 1]? = some (.cells #[vF] 24 (0, 0)) := Boxed.set _ ho9
  have hown0 := hown.kept (grownBy_setCell' W9 (w.heap.size + 1 + 1) vF) (.inr (fun e => own_not hown ho9 (fun cur e => by cases e) e.symm))
  have hB0 : Below w.heap.size w (W9.setCell ⟨w.heap.size + 1 + 1, 0, none⟩ vF) := hB.setCell (p := ⟨w.heap.size + 1 + 1, 0, none⟩) (by show w.heap.size ≤ w.heap.size + 1 + 1; omega) _
  have hd20 := (hset D2 hne2).trans hD29
  have hd0 := (hset D hne1).trans hD9
  generalize W9.setCell ⟨w.heap.size + 1 + 1, 0, none⟩ vF = X0 at hbox hown0 hB0 hd20 hd0 ⊢
  have hg1 := grownBy_putObj' X0 D2 (.deferred none)
  have hd1 : (X0.putObj D2 (.deferred none)).heap[D]? = some (.deferred (some [])) := (World.putObj_heap_other hDD).trans hd0
  have hown1 := hown0.kept hg1 (.inr (fun e => own_not hown0 hd20 (fun cur e => by cases e) e.symm))
  have hg2 := grownBy_putObj' (X0.putObj D2 (.deferred none)) D (.deferred none)
  have hown2 := hown1.kept hg2 (.inr (fun e => own_not hown1 hd1 (fun cur e => by cases e) e.symm))
  refine ⟨_, _, run_takeDeferred hd20, run_takeDeferred hd1, ?_, hown2, (hB0.grown hg1 hB0.size (fun k e => by cases e; exact hD2s)).grown hg2 (hB0.grown hg1 hB0.size (fun k e => by cases e; exact hD2s)).size (fun k e => by cases e; exact hDs)⟩
  have h1 : ((X0.putObj D2 (.deferred none)).putObj D (.deferred none)).heap[w.heap.size + 1 + 1]? = some (.cells #[vF] 24 (0, 0)) := (World.putObj_heap_other hne1.symm).trans ((World.putObj_heap_other hne2.symm).trans hbox)
  simp [World.cell?, h1]
theorem six_alloc (w : World) (o0 o1 o2 o3 o4 o5 : Obj) : ((((((w.alloc o0).alloc o1).alloc o2).alloc o3).alloc o4).alloc o5).heap[w.heap.size]? = some o0 ∧ ((((((w.alloc o0).alloc o1).alloc o2).alloc o3).alloc o4).alloc o5).heap[w.heap.size + 1]? = some o1 ∧
    ((((((w.alloc o0).alloc o1).alloc o2).alloc o3).alloc o4).alloc o5).heap[w.heap.size + 2]? = some o2 ∧ ((((((w.alloc o0).alloc o1).alloc o2).alloc o3).alloc o4).alloc o5).heap[w.heap.size + 3]? = some o3 ∧
    ((((((w.alloc o0).alloc o1).alloc o2).alloc o3).alloc o4).alloc o5).heap[w.heap.size + 4]? = some o4 ∧ ((((((w.alloc o0).alloc o1).alloc o2).alloc o3).alloc o4).alloc o5).heap[w.heap.size + 5]? = some o5 ∧
    ((((((w.alloc o0).alloc o1).alloc o2).alloc o3).alloc o4).alloc o5).heap.size = w.heap.size + 6 := by
  have new : ∀ (W : World) (o : Obj) (k : Nat), k = W.heap.size → (W.alloc o).heap[k]? = some o := fun W o k e => by subst e; exact World.alloc_heap_new W o
  have old : ∀ (W : World) (o : Obj) (k : Nat), k < W.heap.size → (W.alloc o).heap[k]? = W.heap[k]? := fun W o k h => Below.heap_alloc _ _ k h
  refine ⟨?_, ?_, ?_, ?_, ?_, ?_, by simp⟩
  · rw [old _ _ _ (by simp <;> omega), old _ _ _ (by simp <;> omega), old _ _ _ (by simp <;> omega), old _ _ _ (by simp <;> omega), old _ _ _ (by simp), new _ _ _ rfl]
  · rw [old _ _ _ (by simp <;> omega), old _ _ _ (by simp <;> omega), old _ _ _ (by simp <;> omega), old _ _ _ (by simp), new _ _ _ (by simp)]
  · rw [old _ _ _ (by simp <;> omega), old _ _ _ (by simp <;> omega), old _ _ _ (by simp), new _ _ _ (by simp)]
  · rw [old _ _ _ (by simp <;> omega), old _ _ _ (by simp), new _ _ _ (by simp)]
  · rw [old _ _ _ (by simp), new _ _ _ (by simp)]
  · rw [new _ _ _ (by simp)]
/-- A body that ends in 'return'. -/
def goodM (F : Fence) (n : Nat) (P : Program) (fn : Func) (R : Ending → World → Prop) : Exit → Act → World → Prop
  | .ret, a, w => LeavesInM F n P fn a.tmps R a.defers .returning w
  | _, _, _ => False
theorem goodM_body {F : Fence} {n : Nat} {P : Program} {fn : Func} {R : Ending → World → Prop} : ∀ e a w, goodM F n P fn R e a w → bodyPostM F n P fn R e a w := by
  intro e a w h
  cases e <;> first | exact h | exact h.elim
set_option maxRecDepth 100000 in
set_option maxHeartbeats 4000000 in
theorem combine45 (A : Option Addr) (c : Nat) (l : List S32) (A' : Option Addr) (c' : Nat) (m : List S32) (w : World) (hr : Kd.C k32 w A l.length l) (hc : l.length ≤ c) (hl : l.length ≤ 100000000) (hr' : Kd.C k32 w A' m.length m) (hc' : m.length ≤ c') (hm : m.length ≤ 100000000) :
    Calls Tryz.prog 45 #[.agg #[.slice A l.length c], .agg #[.slice A' m.length c'], .func (.func 46) #[] #[]] w fun e w' => ∃ v, e = .returned (.agg #[v]) ∧ w'.ownsRow w.heap.size 32 2 v (orL l m).length (cellsR (orL l m)) ∧ Below w.heap.size w w' := by
  have hu24 := Tryz.underlying24
  have hu32 := Tryz.underlying32
  obtain ⟨i0, hi, hz0, hz1, hz2⟩ := info_parts info3
  have hml : (1000000001 : Nat) ≤ maxLen := by decide
  refine callsIn_wide.1 (callsIn_of_wp_marks (n := 20) Tryz.func45 rfl trivial ?_ rfl)
  simp only [Tryz.ntmps45, List.size_toArray, List.length_cons, List.length_nil, Nat.reduceAdd, Nat.reduceSub, Array.replicate_succ, Array.replicate_zero, List.push_toArray, List.append_toArray, List.nil_append, List.cons_append]
  refine wpIn_mono ?_ goodM_body
  refine wpIn_wide.2 ?_
  go_wp2_with fail
  have hI : CombI w (.slice A l.length c) (.slice A' m.length c') ((((((w.alloc (.cells #[.slice A l.length c] 24)).alloc (.cells #[.slice A' m.length c'] 24)).alloc (.cells #[.slice none 0 0] 24)).alloc (.cells #[.int .i64 0, .int .i64 1114112] 3)).alloc (.cells #[.slice (some ⟨w.heap.size + 1 + 1 + 1, 0, none⟩) 2 2] 27)).alloc (.cells #[.slice A l.length c, .slice A' m.length c'] 24)) := by
    obtain ⟨e0, e1, e2, e3, e4, e5, es⟩ := six_alloc w (.cells #[.slice A l.length c] 24) (.cells #[.slice A' m.length c'] 24) (.cells #[.slice none 0 0] 24) (.cells #[.int .i64 0, .int .i64 1114112] 3) (.cells #[.slice (some ⟨w.heap.size + 1 + 1 + 1, 0, none⟩) 2 2] 27) (.cells #[.slice A l.length c, .slice A' m.length c'] 24)
    exact ⟨((((((Below.refl _ w).alloc (Nat.le_refl _) _).alloc (by simp) _).alloc (by simp; omega) _).alloc (by simp; omega) _).alloc (by simp; omega) _).alloc (by simp; omega) _, e0, e1, e2, e5, by rw [es]; exact Nat.le_refl _⟩
  have hCt : CutsAt w [0, 1114112] (.slice (some ⟨w.heap.size + 1 + 1 + 1, 0, none⟩) 2 2) ((((((w.alloc (.cells #[.slice A l.length c] 24)).alloc (.cells #[.slice A' m.length c'] 24)).alloc (.cells #[.slice none 0 0] 24)).alloc (.cells #[.int .i64 0, .int .i64 1114112] 3)).alloc (.cells #[.slice (some ⟨w.heap.size + 1 + 1 + 1, 0, none⟩) 2 2] 27)).alloc (.cells #[.slice A l.length c, .slice A' m.length c'] 24)) := by
    obtain ⟨e0, e1, e2, e3, e4, e5, es⟩ := six_alloc w (.cells #[.slice A l.length c] 24) (.cells #[.slice A' m.length c'] 24) (.cells #[.slice none 0 0] 24) (.cells #[.int .i64 0, .int .i64 1114112] 3) (.cells #[.slice (some ⟨w.heap.size + 1 + 1 + 1, 0, none⟩) 2 2] 27) (.cells #[.slice A l.length c, .slice A' m.length c'] 24)
    exact ⟨e4, rfl, .inr ⟨w.heap.size + 1 + 1 + 1, 2, #[.int .i64 0, .int .i64 1114112], rfl, by omega, e3, by decide, by decide, rfl, rfl⟩⟩
  generalize (((((w.alloc (.cells #[.slice A l.length c] 24)).alloc (.cells #[.slice A' m.length c'] 24)).alloc (.cells #[.slice none 0 0] 24)).alloc (.cells #[.int .i64 0, .int .i64 1114112] 3)).alloc (.cells #[.slice (some ⟨w.heap.size + 1 + 1 + 1, 0, none⟩) 2 2] 27)).alloc (.cells #[.slice A l.length c, .slice A' m.length c'] 24) = W0 at hI hCt ⊢
  refine wp_loop_rounds 3 ?_
  rw [rounds_succ]
  have hq0 : W0.cell? ⟨w.heap.size + 5, 0, none⟩ = some (.slice A l.length c) := by simp [World.cell?, hI.sets]
  have hsz := hI.size
  have hB01 : Below W0.heap.size W0 ((W0.alloc (.cells #[.slice A l.length c] 24)).alloc (.cells #[.slice A l.length c] 24)) := ((Below.refl _ W0).alloc (Nat.le_refl _) _).alloc (by simp) _
  have hI1 := hI.later hB01
  have hCt1 := hCt.later hB01
  have hp1 : ((W0.alloc (.cells #[.slice A l.length c] 24)).alloc (.cells #[.slice A l.length c] 24)).cell? ⟨W0.heap.size + 1, 0, none⟩ = some (.slice A l.length c) := by simp
  have hs1 : ((W0.alloc (.cells #[.slice A l.length c] 24)).alloc (.cells #[.slice A l.length c] 24)).heap.size = W0.heap.size + 2 := by simp
  have hC1 := Kd.C_below hr hI1.below
  go_wp2_with (first | (go_at_call 36; refine (ranges36 _ _ ⟨_, _, _, rfl⟩).mono ?_; rintro e w' ⟨rfl, rfl⟩))
  generalize (W0.alloc (.cells #[.slice A l.length c] 24)).alloc (.cells #[.slice A l.length c] 24) = W1 at hB01 hI1 hCt1 hp1 hs1 hC1 ⊢
  refine wpIn_wide.1 (wpIn_rangeFunc_C (F := Fence.wide) (n := 20) (n0 := w.heap.size) rfl (by omega) (gf := 47) (lb := #[.pointer (some ⟨W0.heap.size + 1, 0, none⟩)]) rfl trivial (enters_of Tryz.func47 (by kernel_rfl) rfl)
    (iter47 19 w.heap.size (by omega) (W0.heap.size + 1) A c l W1 (by omega) hp1 hC1 hc (by omega)) hI1.below.size (Below.refl _ _) (fun _ => rfl)
    (RangeI w (.slice A l.length c) (.slice A' m.length c') [0, 1114112] []) (fun b0 s A B h hAB => h.later hAB) (fun b0 s A l' o o' h hl' ho hoc => RangeI.putObj (lo := W1.heap.size) (by omega) (fun D hD => by cases hD) l' o o' h hl' ho hoc) ?h0 ?hround ?hdone)
  case h0 =>
    intro b0 hb0
    refine ⟨hI1, (fun D hD => by cases hD), _, (by simpa [flatC] using hCt1), fun e => ?_⟩
    have := (ownI_size hCt1.2 _ e).2
    omega
  case hround =>
    intro lp b0 pre x W K hRI hb0W hwb hpre hK
    rw [zip7]
    simp only [List.setIfInBounds_toArray, List.set_cons_succ, List.set_cons_zero]
    have hxm : x ∈ makeL l := hpre.mem (by simp)
    have hxb := make_bounds hxm
    have hlen := prefix_len hpre
    have hlen2 := makeL_length l
    gi_wp2
    refine hK _ _ ((Below.refl _ W).alloc (Nat.le_refl _) _) (fun W2 hs2 hRI2 hcells => ?_)
    obtain ⟨hI2, hD2, v, hCt2, hne⟩ := hRI2
    have hbx : W2.heap[W.heap.size]? = some (.cells #[.int .i64 x.f0, .int .i64 x.f1] 32 (0, 0)) := hcells _ _ (World.alloc_heap_new W _) rfl
    have hr0 : W2.cell? ⟨W.heap.size, 0, none⟩ = some (.int .i64 x.f0) := by simp [World.cell?, hbx]
    have hr1 : W2.cell? ⟨W.heap.size, 1, none⟩ = some (.int .i64 x.f1) := by simp [World.cell?, hbx]
    have hc0 : W2.heap[w.heap.size + 1 + 1 + 1 + 1]? = some (.cells #[v] 27 (0, 0)) := hCt2.1
    have hc2 : W2.cell? ⟨w.heap.size + 1 + 1 + 1 + 1, 0, none⟩ = some v := by simp [World.cell?, hc0]
    have hfl := flatC_length pre
    have hplen : ([0, 1114112] ++ flatC pre).length ≤ 300000000 := by simp; omega
    have hW2s : W.heap.size + 1 = W2.heap.size := by rw [hs2]; simp
    have hsz2 := hI2.size
    gi_wp2_with (first
      | (with_reducible refine wpListIn_build2 (F := Fence.wide.inRound lp) W2 rfl _ _ rfl x.f0 (x.f1 + 1) rfl rfl ?_)
      | (with_reducible refine wpListIn_store27 (F := Fence.wide.inRound lp) rfl rfl _ _ rfl (w.heap.size + 1 + 1 + 1 + 1) _ _ _ v rfl rfl hc1 hf1 ?_)
      | (gi_at_builtin; refine wpListIn_append_own_at (w := W2.alloc (.cells #[.int .i64 x.f0, .int .i64 (x.f1 + 1)] 3)) rfl _ _ 27 rfl w.heap.size 3 i0 _ 1 8 Tryz.underlying27 hi hz0 hz1 hz2 rfl (by decide) v ([0, 1114112] ++ flatC pre).length _ rfl (hCt2.2.alloc _) ⟨W2.heap.size, 0, none⟩ 2 2 [.int .i64 x.f0, .int .i64 (x.f1 + 1)] rfl rfl (cells_two_ints W2 x.f0 (x.f1 + 1)) (by simp [Value.oneCell']) (by omega) (by omega) (by simp; omega) ?_; intro v' w1 hown' hgrow hnil hat
         have hv1 : w1.heap[w.heap.size + 1 + 1 + 1 + 1]? = some (.cells #[v] 27 (0, 0)) := (hgrow.block _ (by simp; omega) (ownI_not hCt2.2 hCt2.1 (fun cur e => by cases e))).trans ((Below.heap_alloc _ _ _ (Array.getElem?_eq_some_iff.1 hCt2.1).1).trans hCt2.1)
         have hc1 : w1.cell? ⟨w.heap.size + 1 + 1 + 1 + 1, 0, none⟩ = some v := by simp [World.cell?, hv1]
         have hf1 : w1.frozen? ⟨w.heap.size + 1 + 1 + 1 + 1, 0, none⟩ = false := by simp [World.frozen?, hv1]
         obtain ⟨g', cap', rfl⟩ := ownsRow_succ (k := ([0, 1114112] ++ flatC pre).length + 1) hown'))
    exact round_end hI2 hD2 hCt2 hne (by omega) (by omega) hown' hgrow (by simpa [Value.ownBlock] using hat)
  case hdone =>
    intro D b0 W2 hD hRI2 hK
    have hWW : W0.heap.size ≤ W1.heap.size := by omega
    clear hCt hCt1 hI1 hp1 hC1 hs1 hB01 hq0
    obtain ⟨hI2, _, v2, hCt2, _⟩ := hRI2
    have hDlt := (Array.getElem?_eq_some_iff.1 hK).1
    have hsz2 := hI2.size
    have hq1 : W2.cell? ⟨w.heap.size + 1 + 1 + 1 + 1 + 1, 1, none⟩ = some (.slice A' m.length c') := by simp [World.cell?, show W2.heap[w.heap.size + 1 + 1 + 1 + 1 + 1]? = _ from hI2.sets]
    go_wp2_with fail
    rw [rounds_succ]
    go_wp2_with (first | (go_at_call 36; refine (ranges36 _ _ ⟨_, _, _, rfl⟩).mono ?_; rintro e w' ⟨rfl, rfl⟩))
    obtain ⟨V0, hV0⟩ : ∃ V0, V0 = W2 := ⟨_, rfl⟩
    subst hV0
    have hB01 : Below V0.heap.size V0 ((V0.alloc (.cells #[.slice A' m.length c'] 24)).alloc (.cells #[.slice A' m.length c'] 24)) := ((Below.refl _ V0).alloc (Nat.le_refl _) _).alloc (by simp) _
    have hI1 := hI2.later hB01
    have hCt1 := hCt2.later hB01
    have hp1 : ((V0.alloc (.cells #[.slice A' m.length c'] 24)).alloc (.cells #[.slice A' m.length c'] 24)).cell? ⟨V0.heap.size + 1, 0, none⟩ = some (.slice A' m.length c') := by simp
    have hs1 : ((V0.alloc (.cells #[.slice A' m.length c'] 24)).alloc (.cells #[.slice A' m.length c'] 24)).heap.size = V0.heap.size + 2 := by simp
    have hC1 := Kd.C_below hr' hI1.below
    have hKD1 := (hB01.block _ hDlt).trans hK
    generalize (V0.alloc (.cells #[.slice A' m.length c'] 24)).alloc (.cells #[.slice A' m.length c'] 24) = V1 at hB01 hI1 hCt1 hp1 hs1 hC1 hKD1 ⊢
    refine wpIn_wide.1 (wpIn_rangeFunc_C (F := Fence.wide) (n := 20) (n0 := w.heap.size) rfl (by omega) (gf := 47) (lb := #[.pointer (some ⟨V0.heap.size + 1, 0, none⟩)]) rfl trivial (enters_of Tryz.func47 (by kernel_rfl) rfl)
      (iter47 19 w.heap.size (by omega) (V0.heap.size + 1) A' c' m V1 (by omega) hp1 hC1 hc' (by omega)) hI1.below.size (Below.refl _ _) (fun _ => rfl)
      (RangeI w (.slice A l.length c) (.slice A' m.length c') ([0, 1114112] ++ flatC (makeL l)) [D]) (fun b0 s A B h hAB => h.later hAB) (fun b0 s A l' o o' h hl' ho hoc => RangeI.putObj (lo := V1.heap.size) (by omega) (fun D' hD' => by obtain rfl := List.mem_singleton.1 hD'; omega) l' o o' h hl' ho hoc) ?h0b ?hroundb ?hdoneb)
    case h0b =>
      intro b0 hb0
      refine ⟨hI1, (fun D' hD' => by obtain rfl := List.mem_singleton.1 hD'; exact hKD1), _, (by simpa [flatC] using hCt1), fun e => ?_⟩
      have := (ownI_size hCt1.2 _ e).2
      omega
    case hroundb =>
      intro lp b0 pre x V K hRI hb0W hwb hpre hK
      rw [zip7]
      simp only [List.setIfInBounds_toArray, List.set_cons_succ, List.set_cons_zero]
      have hxm : x ∈ makeL m := hpre.mem (by simp)
      have hxb := make_bounds hxm
      have hlen := prefix_len hpre
      have hlen2 := makeL_length m
      gi_wp2
      refine hK _ _ ((Below.refl _ V).alloc (Nat.le_refl _) _) (fun V2 hs2 hRI2 hcells => ?_)
      obtain ⟨hI2, hD2, v, hCt2, hne⟩ := hRI2
      have hbx : V2.heap[V.heap.size]? = some (.cells #[.int .i64 x.f0, .int .i64 x.f1] 32 (0, 0)) := hcells _ _ (World.alloc_heap_new V _) rfl
      have hr0 : V2.cell? ⟨V.heap.size, 0, none⟩ = some (.int .i64 x.f0) := by simp [World.cell?, hbx]
      have hr1 : V2.cell? ⟨V.heap.size, 1, none⟩ = some (.int .i64 x.f1) := by simp [World.cell?, hbx]
      have hc0 : V2.heap[w.heap.size + 1 + 1 + 1 + 1]? = some (.cells #[v] 27 (0, 0)) := hCt2.1
      have hc2 : V2.cell? ⟨w.heap.size + 1 + 1 + 1 + 1, 0, none⟩ = some v := by simp [World.cell?, hc0]
      have hfl := flatC_length pre
      have hfl1 := flatC_length (makeL l)
      have hll1 := makeL_length l
      have hplen : (([0, 1114112] ++ flatC (makeL l)) ++ flatC pre).length ≤ 700000000 := by simp; omega
      have hW2s : V.heap.size + 1 = V2.heap.size := by rw [hs2]; simp
      have hsz2 := hI2.size
      gi_wp2_with (first
        | (with_reducible refine wpListIn_build2 (F := Fence.wide.inRound lp) V2 rfl _ _ rfl x.f0 (x.f1 + 1) rfl rfl ?_)
        | (with_reducible refine wpListIn_store27 (F := Fence.wide.inRound lp) rfl rfl _ _ rfl (w.heap.size + 1 + 1 + 1 + 1) _ _ _ v rfl rfl hc1 hf1 ?_)
        | (gi_at_builtin; refine wpListIn_append_own_at (w := V2.alloc (.cells #[.int .i64 x.f0, .int .i64 (x.f1 + 1)] 3)) rfl _ _ 27 rfl w.heap.size 3 i0 _ 1 8 Tryz.underlying27 hi hz0 hz1 hz2 rfl (by decide) v (([0, 1114112] ++ flatC (makeL l)) ++ flatC pre).length _ rfl (hCt2.2.alloc _) ⟨V2.heap.size, 0, none⟩ 2 2 [.int .i64 x.f0, .int .i64 (x.f1 + 1)] rfl rfl (cells_two_ints V2 x.f0 (x.f1 + 1)) (by simp [Value.oneCell']) (by omega) (by omega) (by simp; omega) ?_; intro v' w1 hown' hgrow hnil hat
           have hv1 : w1.heap[w.heap.size + 1 + 1 + 1 + 1]? = some (.cells #[v] 27 (0, 0)) := (hgrow.block _ (by simp; omega) (ownI_not hCt2.2 hCt2.1 (fun cur e => by cases e))).trans ((Below.heap_alloc _ _ _ (Array.getElem?_eq_some_iff.1 hCt2.1).1).trans hCt2.1)
           have hc1 : w1.cell? ⟨w.heap.size + 1 + 1 + 1 + 1, 0, none⟩ = some v := by simp [World.cell?, hv1]
           have hf1 : w1.frozen? ⟨w.heap.size + 1 + 1 + 1 + 1, 0, none⟩ = false := by simp [World.frozen?, hv1]
           obtain ⟨g', cap', rfl⟩ := ownsRow_succ (k := (([0, 1114112] ++ flatC (makeL l)) ++ flatC pre).length + 1) hown'))
      exact round_end hI2 hD2 hCt2 hne (by omega) (by omega) hown' hgrow (by simpa [Value.ownBlock] using hat)
    case hdoneb =>
      intro D2 b2 W4 hD2 hRI4 hK2
      obtain ⟨hI4, hDD, v4, hCt4, _⟩ := hRI4
      have hKD := hDD D (by simp)
      have hsz4 := hI4.size
      have hVV : V0.heap.size ≤ V1.heap.size := by omega
      have hDs1 := hI2.size
      clear hCt2 hCt1 hI1 hp1 hC1 hs1 hB01 hq1 hKD1 hK hDD
      have hc40 : W4.heap[w.heap.size + 1 + 1 + 1 + 1]? = some (.cells #[v4] 27 (0, 0)) := hCt4.1
      have hc4 : W4.cell? ⟨w.heap.size + 1 + 1 + 1 + 1, 0, none⟩ = some v4 := by simp [World.cell?, hc40]
      go_wp2_with fail
      rw [rounds_succ]
      have hCl : (([0, 1114112] ++ flatC (makeL l)) ++ flatC (makeL m)).length ≤ 700000000 := by
        have h1 := flatC_length (makeL l)
        have h2 := flatC_length (makeL m)
        have h3 := makeL_length l
        have h4 := makeL_length m
        simp; omega
      obtain ⟨C, hC⟩ : ∃ C, C = ([0, 1114112] ++ flatC (makeL l)) ++ flatC (makeL m) := ⟨_, rfl⟩
      rw [← hC] at hCt4 hCl
      have hsort := sort55 hCt4.2 (by omega)
      go_wp2_with (first | (go_at_call 55; refine hsort.mono ?_; rintro e W5 ⟨rfl, hown5, hg5⟩))
      obtain ⟨hI5, hcb5, hdef5⟩ := hI4.sorted hCt4 hg5
      have hK5 := hdef5 D hKD
      have hK25 := hdef5 D2 hK2
      have hBd : Below W5.heap.size W5 W5.drew := pw_below_drewN (Below.refl _ _) 1
      have hI6 := hI5.later hBd
      have hK6 := (hBd.block _ (Array.getElem?_eq_some_iff.1 hK5).1).trans hK5
      have hK26 := (hBd.block _ (Array.getElem?_eq_some_iff.1 hK25).1).trans hK25
      have hCt6 : CutsAt w (sortI C) v4 W5.drew := CutsAt.later ⟨hcb5, by rw [sortI_length]; exact hown5⟩ hBd
      have hca : W5.drew.cell? ⟨w.heap.size, 0, none⟩ = some (.slice A l.length c) := by simp [World.cell?, hI6.a]
      have hcb : W5.drew.cell? ⟨w.heap.size + 1, 0, none⟩ = some (.slice A' m.length c') := by simp [World.cell?, hI6.b]
      refine start_ (n := 6) (S := fun w' => w'.cell? ⟨w.heap.size, 0, none⟩ = some (.slice A l.length c) ∧ w'.cell? ⟨w.heap.size + 1, 0, none⟩ = some (.slice A' m.length c')) (ds := []) #[false, false, false, false, false, false] (by kernel_rfl) rfl rfl ⟨hca, hcb⟩ (fun hHeld => ?_)
      clear hI5 hcb5 hdef5 hK5 hK25 hBd hg5 hown5 hsort hI4 hCt4 hKD hK2 hca hcb hc4 hc40
      generalize W5.drew = W6 at hI6 hK6 hK26 hCt6 hHeld ⊢
      refine take_ (i := 0) (N := some 40) (v := ?_) (a' := ?_) #[true, false, false, false, false, false] rfl rfl (by kernel_rfl) (fun _ _ _ h => h) (Or.inl ⟨by rfl, ?_⟩) hHeld ?_ ?_
      rotate_left
      · rintro w' ⟨s0, s1⟩
        go_simp
        with_reducible rfl
      rotate_left
      · simp only [Act.put, List.setIfInBounds_toArray, List.set_cons_zero, List.set_cons_succ]
        rfl
      refine take_ (i := 2) (N := some 42) (v := ?_) (a' := ?_) #[true, false, true, false, false, false] rfl rfl (by kernel_rfl) (fun _ _ _ h => h) (Or.inl ⟨by rfl, ?_⟩) hHeld ?_ ?_
      rotate_left
      · rintro w' ⟨s0, s1⟩
        go_simp
        with_reducible rfl
      rotate_left
      · simp only [Act.put, List.setIfInBounds_toArray, List.set_cons_zero, List.set_cons_succ]
        rfl
      refine one_ (i := 1) (N := some 41) #[true, true, true, false, false, false] rfl rfl (by kernel_rfl) (by decide) (fun K hK => ?_)
      refine goes_ Tryz.func24 (by kernel_rfl) rfl #[.agg #[.slice A l.length c]] (by rfl) rfl rfl (by (try simp only [List.map_toArray, List.map_cons, List.map_nil]); first | done | rfl) ?_
      refine (finder24 A c l _ (Kd.C_below hr hI6.below) hc (by omega)).mono ?_
      rintro e W7 ⟨f1, rfl, hF1, hB7⟩
      refine ⟨_, rfl, ?_⟩
      have hI7 := hI6.later hB7
      have hK7 := (hB7.block _ (Array.getElem?_eq_some_iff.1 hK6).1).trans hK6
      have hK27 := (hB7.block _ (Array.getElem?_eq_some_iff.1 hK26).1).trans hK26
      have hCt7 := hCt6.later hB7
      refine hK.out _ _ ⟨by simp [World.cell?, hI7.a], by simp [World.cell?, hI7.b]⟩ (fun hHeld => ?_)
      clear hK K hI6 hK6 hK26 hCt6 hB7
      refine norm_ (a' := ?_) ?_ ?_
      rotate_left
      · show Act.put _ (some 41) _ = _
        simp only [Act.put, List.setIfInBounds_toArray, List.set_cons_zero, List.set_cons_succ]
        rfl
      refine one_ (i := 3) (N := some 43) #[true, true, true, true, false, false] rfl rfl (by kernel_rfl) (by decide) (fun K hK => ?_)
      refine goes_ Tryz.func24 (by kernel_rfl) rfl #[.agg #[.slice A' m.length c']] (by rfl) rfl rfl (by (try simp only [List.map_toArray, List.map_cons, List.map_nil]); first | done | rfl) ?_
      refine (finder24 A' c' m _ (Kd.C_below hr' hI7.below) hc' (by omega)).mono ?_
      rintro e W8 ⟨f2, rfl, hF2, hB8⟩
      refine ⟨_, rfl, ?_⟩
      have hF18 := hF1.below hB8
      have hI8 := hI7.later hB8
      have hK8 := (hB8.block _ (Array.getElem?_eq_some_iff.1 hK7).1).trans hK7
      have hK28 := (hB8.block _ (Array.getElem?_eq_some_iff.1 hK27).1).trans hK27
      have hCt8 := hCt7.later hB8
      refine hK.out _ _ ⟨by simp [World.cell?, hI8.a], by simp [World.cell?, hI8.b]⟩ (fun hHeld => ?_)
      clear hK K hI7 hK7 hK27 hCt7 hB8 hF1
      refine norm_ (a' := ?_) ?_ ?_
      rotate_left
      · show Act.put _ (some 43) _ = _
        simp only [Act.put, List.setIfInBounds_toArray, List.set_cons_zero, List.set_cons_succ]
        rfl
      refine pure_ (i := 4) (N := some 11) (v := ?_) (a' := ?_) #[true, true, true, true, true, false] rfl rfl (by kernel_rfl) (fun _ _ _ h => h) (Or.inl ⟨by rfl, ?_⟩) ?_ ?_
      rotate_left
      · intro w'
        go_simp
        with_reducible rfl
      rotate_left
      · simp only [Act.put, List.setIfInBounds_toArray, List.set_cons_zero, List.set_cons_succ]
        rfl
      refine pure_ (i := 5) (N := some 12) (v := ?_) (a' := ?_) #[true, true, true, true, true, true] rfl rfl (by kernel_rfl) (fun _ _ _ h => h) (Or.inl ⟨by rfl, ?_⟩) ?_ ?_
      rotate_left
      · intro w'
        go_simp
        with_reducible rfl
      rotate_left
      · simp only [Act.put, List.setIfInBounds_toArray, List.set_cons_zero, List.set_cons_succ]
        rfl
      refine done_ (by kernel_rfl) ?_
      go_wp2_with fail
      have hbd := cuts_bounds (l := l) (m := m)
      rw [← hC] at hbd
      have hSl : (sortI C).length = C.length := sortI_length C
      have hC2 : 2 ≤ C.length := by rw [hC]; simp
      obtain ⟨S, hS⟩ : ∃ S, S = sortI C := ⟨_, rfl⟩
      rw [← hS] at hCt8 hbd hSl
      have hS2 : 2 ≤ S.length := by omega
      have hS3 : S.length ≤ 700000000 := by omega
      have HC := Lib.hid hC
      have HS := Lib.hid hS
      clear hC hS hSl hCl hC2
      obtain ⟨A4, c4, rfl, hCS, hc4⟩ := cuts_C hCt8.2
      have hcell8 : W8.cell? ⟨w.heap.size + 1 + 1 + 1 + 1, 0, none⟩ = some (.slice A4 S.length c4) := by simp [World.cell?, show W8.heap[w.heap.size + 1 + 1 + 1 + 1]? = _ from hCt8.1]
      have hlt8 : w.heap.size + 4 < W8.heap.size := (Array.getElem?_eq_some_iff.1 hCt8.1).1
      obtain ⟨inn, hinn⟩ : ∃ inn : Int → Bool, inn = fun x => hasR l x || hasR m x := ⟨_, rfl⟩
      go_loopw [13, 14] (fun v i wr => ∃ k : Nat, k + 1 ≤ S.length ∧ i = .int .i64 ((k : Int) + 1) ∧ wr.ownsRow W8.heap.size 32 2 v (piecesL inn S k).length (cellsR (piecesL inn S k)) ∧ Below W8.heap.size W8 wr) (fun _ i _ => S.length - (intOf i).toNat)
      case atStart => exact ⟨0, by omega, rfl, World.ownsRow_nil _ _ _ _, Below.refl _ _⟩
      case round =>
        obtain ⟨k, hk, rfl, hown, hB⟩ := hrel
        have hcr : wr.cell? ⟨w.heap.size + 1 + 1 + 1 + 1, 0, none⟩ = some (.slice A4 S.length c4) := (hB.cell (p := ⟨w.heap.size + 1 + 1 + 1 + 1, 0, none⟩) (by show w.heap.size + 1 + 1 + 1 + 1 < W8.heap.size; omega)).trans hcell8
        have hCr := Kd.C_below hCS hB
        by_cases hlt : k + 1 < S.length
        · obtain ⟨ad, rfl, hx⟩ := C_int_cell hCr (show k < S.length by omega)
          obtain ⟨ad', had', hy⟩ := C_int_cell hCr hlt
          obtain rfl : ad = ad' := Option.some.inj had'
          obtain ⟨x, hxe⟩ : ∃ x, x = S.getD k 0 := ⟨_, rfl⟩
          obtain ⟨y, hye⟩ : ∃ y, y = S.getD (k + 1) 0 := ⟨_, rfl⟩
          rw [← hxe] at hx
          rw [← hye] at hy
          have hxb : 0 ≤ x ∧ x ≤ 1114112 := hbd x (by rw [hxe, List.getD_eq_getElem?_getD, List.getElem?_eq_getElem (show k < S.length by omega)]; exact List.getElem_mem _)
          have hyb : 0 ≤ y ∧ y ≤ 1114112 := hbd y (by rw [hye, List.getD_eq_getElem?_getD, List.getElem?_eq_getElem hlt]; exact List.getElem_mem _)
          have hltI : (k : Int) + 1 < (S.length : Int) := by omega
          have Hxe := Lib.hid hxe
          have Hye := Lib.hid hye
          have Hinn := Lib.hid hinn
          clear hxe hye hinn had'
          have hwk : IntKind.i64.wrap (k : Int) = (k : Int) := by rw [i64_w]; unfold wrap64; omega
          have hwy : IntKind.i64.wrap (y - 1) = y - 1 := by rw [i64_w]; unfold wrap64; omega
          have hkn : ((k : Int) + 1).toNat = k + 1 := by omega
          have hk0 : (k : Int) < (S.length : Int) := by omega
          have hk1 : (0 : Int) ≤ (k : Int) + 1 := by omega
          have hk00 : (0 : Int) ≤ (k : Int) := by omega
          have hy1 : wr.cell? ⟨ad.block, ad.off + (k + 1), none⟩ = some (.int .i64 y) := by simpa [Addr.add] using hy
          go_wp2_with fail
          refine start_ (n := 12) (S := fun w' => w'.cell? ⟨w.heap.size + 1 + 1 + 1 + 1, 0, none⟩ = some (.slice (some ad) S.length c4) ∧ w'.cell? (ad.add k) = some (.int .i64 x) ∧ w'.cell? ⟨ad.block, ad.off + (k + 1), none⟩ = some (.int .i64 y)) (ds := []) #[false, false, false, false, false, false, false, false, false, false, false, false] (by kernel_rfl) rfl rfl ⟨by simpa using hcr, by simpa using hx, by simpa using hy1⟩ (fun hHeld => ?_)
          refine pure_ (i := 1) (N := some 51) (v := ?_) (a' := ?_) #[false, true, false, false, false, false, false, false, false, false, false, false] rfl rfl (by kernel_rfl) (fun _ _ _ h => h) (Or.inl ⟨by rfl, ?_⟩) ?_ ?_
          rotate_left
          · intro w'
            go_simp
            with_reducible rfl
          rotate_left
          · simp only [Act.put, List.setIfInBounds_toArray, List.set_cons_zero, List.set_cons_succ]
            rfl
          refine take_ (i := 0) (N := some 50) (v := ?_) (a' := ?_) #[true, true, false, false, false, false, false, false, false, false, false, false] rfl rfl (by kernel_rfl) (fun _ _ _ h => h) (Or.inl ⟨by rfl, ?_⟩) hHeld ?_ ?_
          rotate_left
          · rintro w' ⟨s0, s1, s2⟩
            go_simp
            with_reducible rfl
          rotate_left
          · simp only [Act.put, List.setIfInBounds_toArray, List.set_cons_zero, List.set_cons_succ]
            rfl
          refine pure_ (i := 2) (N := some 52) (v := ?_) (a' := ?_) #[true, true, true, false, false, false, false, false, false, false, false, false] rfl rfl (by kernel_rfl) (fun _ _ _ h => h) (Or.inl ⟨by rfl, ?_⟩) ?_ ?_
          rotate_left
          · intro w'
            go_simp
            with_reducible rfl
          rotate_left
          · simp only [Act.put, List.setIfInBounds_toArray, List.set_cons_zero, List.set_cons_succ]
            rfl
          refine pure_ (i := 3) (N := some 53) (v := ?_) (a' := ?_) #[true, true, true, true, false, false, false, false, false, false, false, false] rfl rfl (by kernel_rfl) (fun _ _ _ h => h) (Or.inl ⟨by rfl, ?_⟩) ?_ ?_
          rotate_left
          · intro w'
            go_simp
            with_reducible rfl
          rotate_left
          · simp only [Act.put, List.setIfInBounds_toArray, List.set_cons_zero, List.set_cons_succ]
            rfl
          refine take_ (i := 4) (N := some 54) (v := ?_) (a' := ?_) #[true, true, true, true, true, false, false, false, false, false, false, false] rfl rfl (by kernel_rfl) (fun _ _ _ h => h) (Or.inl ⟨by rfl, ?_⟩) hHeld ?_ ?_
          rotate_left
          · rintro w' ⟨s0, s1, s2⟩
            go_simp
            with_reducible rfl
          rotate_left
          · simp only [Act.put, List.setIfInBounds_toArray, List.set_cons_zero, List.set_cons_succ]
            rfl
          refine pure_ (i := 10) (N := some 15) (v := ?_) (a' := ?_) #[true, true, true, true, true, false, false, false, false, false, true, false] rfl rfl (by kernel_rfl) (fun _ _ _ h => h) (Or.inl ⟨by rfl, ?_⟩) ?_ ?_
          rotate_left
          · intro w'
            go_simp
            with_reducible rfl
          rotate_left
          · simp only [Act.put, List.setIfInBounds_toArray, List.set_cons_zero, List.set_cons_succ]
            rfl
          refine pure_ (i := 6) (N := some 56) (v := ?_) (a' := ?_) #[true, true, true, true, true, false, true, false, false, false, true, false] rfl rfl (by kernel_rfl) (fun _ _ _ h => h) (Or.inl ⟨by rfl, ?_⟩) ?_ ?_
          rotate_left
          · intro w'
            go_simp
            with_reducible rfl
          rotate_left
          · simp only [Act.put, List.setIfInBounds_toArray, List.set_cons_zero, List.set_cons_succ]
            rfl
          refine take_ (i := 5) (N := some 55) (v := ?_) (a' := ?_) #[true, true, true, true, true, true, true, false, false, false, true, false] rfl rfl (by kernel_rfl) (fun _ _ _ h => h) (Or.inl ⟨by rfl, ?_⟩) hHeld ?_ ?_
          rotate_left
          · rintro w' ⟨s0, s1, s2⟩
            go_simp
            with_reducible rfl
          rotate_left
          · simp only [Act.put, List.setIfInBounds_toArray, List.set_cons_zero, List.set_cons_succ]
            rfl
          refine pure_ (i := 7) (N := some 57) (v := ?_) (a' := ?_) #[true, true, true, true, true, true, true, true, false, false, true, false] rfl rfl (by kernel_rfl) (fun _ _ _ h => h) (Or.inl ⟨by rfl, ?_⟩) ?_ ?_
          rotate_left
          · intro w'
            go_simp
            with_reducible rfl
          rotate_left
          · simp only [Act.put, List.setIfInBounds_toArray, List.set_cons_zero, List.set_cons_succ]
            rfl
          refine take_ (i := 8) (N := some 58) (v := ?_) (a' := ?_) #[true, true, true, true, true, true, true, true, true, false, true, false] rfl rfl (by kernel_rfl) (fun _ _ _ h => h) (Or.inl ⟨by rfl, ?_⟩) hHeld ?_ ?_
          rotate_left
          · rintro w' ⟨s0, s1, s2⟩
            go_simp
            with_reducible rfl
          rotate_left
          · simp only [Act.put, List.setIfInBounds_toArray, List.set_cons_zero, List.set_cons_succ]
            rfl
          refine pure_ (i := 9) (N := some 59) (v := ?_) (a' := ?_) #[true, true, true, true, true, true, true, true, true, true, true, false] rfl rfl (by kernel_rfl) (fun _ _ _ h => h) (Or.inl ⟨by rfl, ?_⟩) ?_ ?_
          rotate_left
          · intro w'
            go_simp
            with_reducible rfl
          rotate_left
          · simp only [Act.put, List.setIfInBounds_toArray, List.set_cons_zero, List.set_cons_succ]
            rfl
          refine pure_ (i := 11) (N := some 16) (v := ?_) (a' := ?_) #[true, true, true, true, true, true, true, true, true, true, true, true] rfl rfl (by kernel_rfl) (fun _ _ _ h => h) (Or.inl ⟨by rfl, ?_⟩) ?_ ?_
          rotate_left
          · intro w'
            go_simp
            with_reducible rfl
          rotate_left
          · simp only [Act.put, List.setIfInBounds_toArray, List.set_cons_zero, List.set_cons_succ]
            rfl
          refine done_ (by kernel_rfl) ?_
          have hdr : Below wr.heap.size wr wr.drew := pw_below_drewN (Below.refl _ _) 1
          have hB2 : Below W8.heap.size W8 wr.drew := hB.trans (hdr.mono hB.size)
          have hown2 := own_below hown hdr
          have hF1d := hF18.below hB2
          have hF2d := hF2.below hB2
          have hsz8 := hB2.size
          clear hHeld hx hy hy1 hcr hCr hB hown hdr
          generalize wr.drew = wd at hB2 hown2 hF1d hF2d hsz8 ⊢
          have hpl := pieces_len inn S k
          by_cases hle : x ≤ y - 1
          · obtain ⟨b1, rfl, hcall1⟩ := found37 hF1d (by omega) x
            go_wp2_with (first
              | (go_at_call 37; refine hcall1.mono ?_; rintro e w9 ⟨rfl, hB9⟩; clear hcall1; obtain ⟨b2, rfl, hcall2⟩ := found37 (hF2d.below hB9) (by omega) x)
              | (go_at_call 37; refine hcall2.mono ?_; rintro e w10 ⟨rfl, hB10⟩; clear hcall2
                 have hown10 := own_below (own_below hown2 hB9) hB10
                 have hBA : Below W8.heap.size W8 w10 := hB2.trans ((hB9.mono hsz8).trans (hB10.mono (by have := hB9.size; omega)))
                 have hszA := hBA.size
                 clear hB9 hB10 hown2)
              | (go_at_call 46; refine (or46 _ _ _).mono ?_; rintro e w' ⟨rfl, rfl⟩)
              | (at_builtin; refine print_append_cells (w0 := W8) W8.heap.size rfl _ _ 22 32 _ 2 16 rfl Tryz.underlying22 info32' rfl (by omega) (by omega) u13 (piecesL inn S k).length (cellsR (piecesL inn S k)) (encR ⟨x, y - 1⟩) rfl rfl rfl (by simp [encR, Value.oneCell']) hown10 hBA hszA (by omega) ?_; intro v1 w1 hown1 hB1 hg1 hat1))
            · next hh =>
              have hpa : pieceAt inn S k = [⟨x, y - 1⟩] := by
                unfold pieceAt
                rw [← Hxe.out, ← Hye.out, if_pos ⟨hle, by rw [Hinn.out]; simpa using hh⟩]
              refine ⟨⟨k + 1, by omega, by simp, ?_, hB1⟩, by simp [intOf]; omega⟩
              rw [pieces_succ, hpa, List.length_append, cellsR_append]
              exact hown1
            · next hh =>
              have hpa : pieceAt inn S k = [] := by
                unfold pieceAt
                rw [← Hxe.out, ← Hye.out, if_neg (fun q => by have h2 := q.2; rw [Hinn.out] at h2; simp [hh.1, hh.2] at h2)]
              refine ⟨⟨k + 1, by omega, by simp, ?_, hBA⟩, by simp [intOf]; omega⟩
              rw [pieces_succ, hpa, List.append_nil]
              exact hown10
          · have hgt : y - 1 < x := by omega
            have hpa : pieceAt inn S k = [] := by
              unfold pieceAt
              rw [← Hxe.out, ← Hye.out, if_neg (fun q => hle q.1)]
            have Hpa := Lib.hid hpa
            clear hpa
            go_wp2_with fail
            refine ⟨⟨k + 1, by omega, by simp, ?_, hB2⟩, by simp [intOf]; omega⟩
            rw [pieces_succ, Hpa.out, List.append_nil]
            exact hown2
        · have hltI : ¬ ((k : Int) + 1 < (S.length : Int)) := by omega
          have hpl := pieces_len inn S k
          obtain ⟨Ao, co, rfl⟩ := Kd.R_slice (R32_of_own hown)
          obtain ⟨hCo, hco⟩ := own_C hown
          have hmk := make48 Ao co (piecesL inn S k) wr hCo hco (by omega)
          have HK : Hid (k = S.length - 1) := Lib.hid (by omega)
          have Hinn := Lib.hid hinn
          clear hinn
          generalize hP : piecesL inn S k = P at hmk hown hCo hco hpl
          have HP := Lib.hid hP
          clear hP
          go_wp2_with (first
            | (go_at_call 48; refine hmk.mono ?_; rintro e W9 ⟨vf, rfl, hownf, hBf⟩; obtain ⟨Af, cf, rfl⟩ := Kd.R_slice (R32_of_own hownf)
               have ho9 : W9.heap[w.heap.size + 1 + 1]? = some (.cells #[.slice none 0 0] 24 (0, 0)) := (hBf.block _ (by have := hB.size; omega)).trans ((hB.block _ (by omega)).trans hI8.o)
               have hc9 : W9.cell? ⟨w.heap.size + 1 + 1, 0, none⟩ = some (.slice none 0 0) := (by simp [World.cell?, ho9])
               have hf9 : W9.frozen? ⟨w.heap.size + 1 + 1, 0, none⟩ = false := (by simp [World.frozen?, ho9])))
          have hszr := hB.size
          have hD9 : W9.heap[D]? = some (.deferred (some [])) := (hBf.block _ (by have := (Array.getElem?_eq_some_iff.1 hK8).1; omega)).trans ((hB.block _ (Array.getElem?_eq_some_iff.1 hK8).1).trans hK8)
          have hD29 : W9.heap[D2]? = some (.deferred (some [])) := (hBf.block _ (by have := (Array.getElem?_eq_some_iff.1 hK28).1; omega)).trans ((hB.block _ (Array.getElem?_eq_some_iff.1 hK28).1).trans hK28)
          have hB9 : Below w.heap.size w W9 := hI8.below.trans ((hB.mono hI8.below.size).trans (hBf.mono (by have := hI8.below.size; omega)))
          have hPor : makeL P = orL l m := by
            rw [← HP.out, HK.out, HS.out, HC.out, Hinn.out]
            rfl
          rw [hPor] at hownf ⊢
          have ho9 : W9.heap[w.heap.size + 1 + 1]? = some (.cells #[.slice none 0 0] 24 (0, 0)) := (hBf.block _ (by have := hB.size; omega)).trans ((hB.block _ (by omega)).trans hI8.o)
          have hD1s : w.heap.size ≤ D := by omega
          have hD2s : w.heap.size ≤ D2 := by omega
          obtain ⟨X1, X2, e1, e2, hcell, hownX, hBX⟩ := comb_end (P := Tryz.prog) ho9 hD9 hD29 (by omega) hD1s hD2s (own_weaken hownf (by have := hI8.below.size; omega)) hB9
          refine ⟨by simp, .inl ⟨_, _, rfl, e1, ⟨by simp, .inl ⟨_, _, rfl, e2, ?_⟩⟩⟩⟩
          exact ⟨.agg #[.slice Af (orL l m).length cf], by simp [results, Tryz.results45, go_sem, hcell], _, rfl, hownX, hBX⟩
end Go.Proofs.YtjfcmiocmcdjlaaGreatDoor.G
