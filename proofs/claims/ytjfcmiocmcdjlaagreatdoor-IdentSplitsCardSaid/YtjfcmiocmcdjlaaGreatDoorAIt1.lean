/- slices.AppendSeq and slices.Collect of ranges, at whatever iterator that owes SeqB. -/
import Derived.Test.YtjfcmiocmcdjlaaGreatDoorAIt0
import Derived.Test.YtjfcmiocmcdjlaaGreatDoorAHmake
import Derived.Maps.AppendAt
import Derived.Maps.OwnIn
import Derived.RangeFuncBox
namespace Go.Proofs.YtjfcmiocmcdjlaaGreatDoor.G
open Go.RowKit Go.Shelf Go.Proofs.YtjfcmiocmcdjlaaGreatDoorW.PrintWords
attribute [local go_sem] Oper.semAt_some
set_option linter.unusedVariables false
def encS (x : S32) : Array Value := #[.agg #[.int .i64 x.f0, .int .i64 x.f1]]
theorem zip7 (p : Nat) (x : S32) (t0 : Array Value) : ((#[p] : Array Nat).zip (encS x)).foldl (fun t (p, v) => t.setIfInBounds p v) t0 = t0.setIfInBounds p (.agg #[.int .i64 x.f0, .int .i64 x.f1]) := by simp [encS]
theorem cells_two_new (w : World) (x : S32) : ∀ j u, (encR x)[j]? = some u → (w.alloc (.cells #[.int .i64 x.f0, .int .i64 x.f1] 32)).cell? ((⟨w.heap.size, 0, none⟩ : Addr).add j) = some u := by
  intro j u hj
  match j, hj with
  | 0, hj =>
    simp [encR] at hj
    subst hj
    simp [Addr.add]
  | 1, hj =>
    simp [encR] at hj
    subst hj
    simp [Addr.add]
  | j + 2, hj => simp [encR] at hj
theorem prefix_len {pre xs : List S32} {x : S32} (h : pre ++ [x] <+: xs) : pre.length + 1 ≤ xs.length := by
  have := h.length_le
  simpa using this
theorem own_not {W : World} {base : Nat} {v : Value} {k : Nat} {ys : List Value} (h : W.ownsRow base 32 2 v k ys) {j : Nat} {o : Obj} (hj : W.heap[j]? = some o) (hno : ∀ cur, o ≠ .cells cur 32 (0, 0)) : some j ≠ v.ownBlock := by
  rcases h.2 with ⟨rfl, _⟩ | ⟨g, cap, cur, rfl, _, hgb, _⟩
  · simp [Value.ownBlock]
  · intro e
    have : g = j := by simpa [Value.ownBlock] using e.symm
    subst this; rw [hgb] at hj; cases hj; exact hno cur rfl
theorem own_size {W : World} {base : Nat} {v : Value} {k : Nat} {ys : List Value} (h : W.ownsRow base 32 2 v k ys) : ∀ b, v.ownBlock = some b → base ≤ b ∧ b < W.heap.size := by
  intro b e
  rcases h.2 with ⟨rfl, _⟩ | ⟨g, cap, cur, rfl, hb, hgb, _⟩
  · simp [Value.ownBlock] at e
  · have : g = b := by simpa [Value.ownBlock] using e
    subst this
    exact ⟨hb, (Array.getElem?_eq_some_iff.1 hgb).1⟩
theorem own_below {W W' : World} {base : Nat} {v : Value} {k : Nat} {ys : List Value} (h : W.ownsRow base 32 2 v k ys) (hB : Below W.heap.size W W') : W'.ownsRow base 32 2 v k ys := by
  refine ⟨h.1, ?_⟩
  rcases h.2 with h0 | ⟨g, cap, cur, rfl, hb, hgb, hr⟩
  · exact .inl h0
  · exact .inr ⟨g, cap, cur, rfl, hb, (hB.block g (Array.getElem?_eq_some_iff.1 hgb).1).trans hgb, hr⟩
theorem cellsR_append (l : List S32) (x : S32) : cellsR (l ++ [x]) = cellsR l ++ encR x := by simp [cellsR]
set_option maxRecDepth 100000 in
set_option maxHeartbeats 2000000 in
theorem append30 (n : Nat) (hn : 3 ≤ n) (xs : List S32) (hxs : xs.length ≤ 1000000000) (g : Nat) (lb : Array Value) (eg : ∀ args w, (callFunc g args).run Tryz.prog w = .ok (.enter g args) w) (w : World)
    (hseq : SeqB Fence.wide (n - 1) Tryz.prog g lb encS w.heap.size xs w) :
    CallsIn Fence.wide n Tryz.prog 30 #[.slice none 0 0, .func (.func g) #[] lb] w fun e w' => ∃ v, e = .returned v ∧ w'.ownsRow w.heap.size 32 2 v xs.length (cellsR xs) ∧ Below w.heap.size w w' := by
  refine callsIn_of_wp_marks Tryz.func30 rfl trivial ?_ rfl
  simp only [Tryz.ntmps30, List.size_toArray, List.length_cons, List.length_nil, Nat.reduceAdd, Nat.reduceSub, Array.replicate_succ, Array.replicate_zero, List.push_toArray, List.append_toArray, List.nil_append, List.cons_append]
  obtain ⟨i0, hi, hz0, hz1, hz2⟩ := info_parts info32'
  have hml : (1000000001 : Nat) ≤ maxLen := by decide
  gi_wp2
  have hb0 : Below w.heap.size w (w.alloc (.cells #[.slice none 0 0] 22)) := (Below.refl _ w).alloc (Nat.le_refl _) _
  have hx0 : (w.alloc (.cells #[.slice none 0 0] 22)).heap[w.heap.size]? = some (.cells #[.slice none 0 0] 22 (0, 0)) := World.alloc_heap_new w _
  have hs0 : (w.alloc (.cells #[.slice none 0 0] 22)).heap.size = w.heap.size + 1 := by simp
  generalize hW0 : w.alloc (.cells #[.slice none 0 0] 22) = W0 at hb0 hx0 hs0 ⊢
  refine wpIn_rangeFunc_B (n0 := w.heap.size) rfl (by omega) (gf := g) (lb := lb) rfl trivial eg hseq (by omega) hb0 (fun _ => rfl)
    (fun b0 pre W => Below w.heap.size w W ∧ ∃ v, W.heap[w.heap.size]? = some (.cells #[v] 22 (0, 0)) ∧ W.ownsRow w.heap.size 32 2 v pre.length (cellsR pre) ∧ v.ownBlock ≠ some b0)
    ?hI ?hIo ?h0
    (fun x a' W => ∃ r, W.heap[r]? = some (.cells #[.int .i64 x.f0, .int .i64 x.f1] 32 (0, 0)) ∧ a' = { tmps := #[.slice none 0 0, .func (.func g) #[] lb, .pointer (some ⟨w.heap.size, 0, none⟩), undef, .slice none 0 0, .pointer (some ⟨r, 0, none⟩), .func (.func g) #[] lb, .agg #[.int .i64 x.f0, .int .i64 x.f1], undef, undef, undef, undef, undef], defers := [] })
    ?hAx ?assign ?body ?done
  case hI =>
    rintro b0 s A B ⟨hB, v, hv, hrow, hne⟩ hAB
    exact ⟨hB.trans (hAB.mono hB.size), v, (hAB.block _ (Array.getElem?_eq_some_iff.1 hv).1).trans hv, own_below hrow hAB, hne⟩
  case hIo =>
    rintro b0 s A l o o' ⟨hB, v, hv, hrow, hne⟩ hl ho hoc
    have hg := grownBy_putObj' A l o'
    refine ⟨hB.grown hg hB.size (fun k e => by cases e; omega), v, (World.putObj_heap_other (by omega)).trans hv, hrow.kept hg (.inr (fun e => ?_)), hne⟩
    exact own_not (o := o) hrow ho (fun cur e => by subst e; simp [Obj.isCells] at hoc) e.symm
  case h0 =>
    intro b0 hb
    exact ⟨hb0, _, hx0, ⟨rfl, .inl ⟨rfl, rfl⟩⟩, by simp [Value.ownBlock]⟩
  case hAx =>
    rintro x a' A l o o' ⟨r, hr, e⟩ ho hoc
    refine ⟨r, (World.putObj_heap_other (fun e => ?_)).trans hr, e⟩
    subst e
    rw [hr] at ho
    cases ho
    simp [Obj.isCells] at hoc
  case assign =>
    intro l x W K hK
    rw [zip7]
    simp only [List.setIfInBounds_toArray, List.set_cons_succ, List.set_cons_zero]
    gi_wp2
    exact hK _ _ ((Below.refl _ W).alloc (Nat.le_refl _) _) ⟨W.heap.size, World.alloc_heap_new W _, rfl⟩
  case body =>
    rintro l b0 pre x a' W ⟨hB, v, hv, hrow, hne⟩ hb0W hwb ⟨r, hr, rfl⟩ hpre
    have hlen := prefix_len hpre
    have hc : W.cell? ⟨w.heap.size, 0, none⟩ = some v := by simp [World.cell?, hv]
    have hr0 : W.cell? ⟨r, 0, none⟩ = some (.int .i64 x.f0) := by simp [World.cell?, hr]
    have hr1 : W.cell? ⟨r, 1, none⟩ = some (.int .i64 x.f1) := by simp [World.cell?, hr]
    have hBs := hB.size
    gi_wp2_with (first
      | (gi_at_builtin; refine wpListIn_append_own_at (w := W.alloc (.cells #[.int .i64 x.f0, .int .i64 x.f1] 32)) rfl _ _ 22 rfl w.heap.size 32 i0 _ 2 16 Tryz.underlying22 hi hz0 hz1 hz2 rfl (by decide) v pre.length _ rfl (hrow.alloc _) ⟨W.heap.size, 0, none⟩ 1 1 (encR x) rfl rfl (cells_two_new W x) (by simp [encR, Value.oneCell']) (by omega) (by omega) (by simp; omega) ?_; intro v' w1 hown' hgrow hnil hat
         have hv1 : w1.heap[w.heap.size]? = some (.cells #[v] 22 (0, 0)) := (hgrow.block w.heap.size (by simp; omega) (own_not hrow hv (fun cur e => by cases e))).trans ((Below.heap_alloc _ _ _ (Array.getElem?_eq_some_iff.1 hv).1).trans hv)
         have hc1 : w1.cell? ⟨w.heap.size, 0, none⟩ = some v := by simp [World.cell?, hv1]
         have hf1 : w1.frozen? ⟨w.heap.size, 0, none⟩ = false := by simp [World.frozen?, hv1]
         obtain ⟨g', cap', rfl⟩ := ownsRow_succ hown'))
    have hsz := own_size hrow
    have hBW : Below w.heap.size W w1 := ((Below.refl _ W).alloc hBs _).grown hgrow (by simp; omega) (fun k e => (hsz k e).1)
    have hBW' : Below w.heap.size W (w1.setCell ⟨w.heap.size, 0, none⟩ (.slice (some ⟨g', 0, none⟩) (pre.length + 1) cap')) := hBW.setCell (p := ⟨w.heap.size, 0, none⟩) (Nat.le_refl _) _
    refine ⟨((KeepsOthers.alloc W _).trans (KeepsOthers.of_grownBy hgrow (fun j o hj ho => ?_))).trans (KeepsOthers.setCell _ _ _), hBW', ?_, hB.trans hBW', .slice (some ⟨g', 0, none⟩) (pre.length + 1) cap', ?_, ?_, ?_⟩
    · rcases hrow.2 with ⟨rfl, _⟩ | ⟨g0, cap0, cur0, rfl, _, hgb, _⟩
      · simp [Value.ownBlock] at hj
      · have : g0 = j := by simpa [Value.ownBlock] using hj
        subst this
        rw [Below.heap_alloc _ _ _ (Array.getElem?_eq_some_iff.1 hgb).1, hgb] at ho
        cases ho
        rfl
    · exact (Below.heap_setCell _ _ _ b0 (by show b0 ≠ w.heap.size; omega)).trans ((hgrow.block b0 (by simp; omega) (fun e => hne e.symm)).trans (Below.heap_alloc _ _ _ hb0W))
    · exact Boxed.set _ hv1
    · have := hown'.kept (grownBy_setCell' w1 w.heap.size (.slice (some ⟨g', 0, none⟩) (pre.length + 1) cap')) (.inr (fun e => own_not hown' hv1 (fun cur e => by cases e) e.symm))
      rw [List.length_append, cellsR_append]
      exact this
    · rcases hat with hat | hat
      · rw [hat]; exact hne
      · rw [hat]
        simp
        omega
  case done =>
    rintro D b0 W hD ⟨hB, v, hv, hrow, hne⟩ hK
    have hc : W.cell? ⟨w.heap.size, 0, none⟩ = some v := by simp [World.cell?, hv]
    gi_wp2
    refine ⟨by simp, .inl ⟨_, _, rfl, run_takeDeferred hK, ?_⟩⟩
    have hg := grownBy_putObj' W D (.deferred none)
    exact ⟨_, results_tmp rfl _ _ _, v, rfl, hrow.kept hg (.inr (fun e => own_not hrow hK (fun cur e => by cases e) e.symm)), hB.grown hg hB.size (fun k e => by cases e; omega)⟩
/-- slices.Collect. -/
theorem collect20 (n : Nat) (hn : 4 ≤ n) (xs : List S32) (hxs : xs.length ≤ 1000000000) (g : Nat) (lb : Array Value) (eg : ∀ args w, (callFunc g args).run Tryz.prog w = .ok (.enter g args) w) (w : World)
    (hseq : SeqB Fence.wide (n - 1 - 1) Tryz.prog g lb encS w.heap.size xs w) :
    CallsIn Fence.wide n Tryz.prog 20 #[.func (.func g) #[] lb] w fun e w' => ∃ v, e = .returned v ∧ w'.ownsRow w.heap.size 32 2 v xs.length (cellsR xs) ∧ Below w.heap.size w w' := by
  refine callsIn_of_wp Tryz.func20 rfl trivial ?_ rfl
  simp only [Tryz.ntmps20, List.size_toArray, List.length_cons, List.length_nil, Nat.reduceAdd, Nat.reduceSub, Array.replicate_succ, Array.replicate_zero, List.push_toArray, List.append_toArray, List.nil_append, List.cons_append]
  gi_wp2_with (refine ⟨trivial, (fun h => by cases h), ?_⟩; refine (append30 (n - 1) (by omega) xs hxs g lb eg _ hseq).mono ?_; rintro e w' ⟨v, rfl, hrow, hb⟩)
  go_ret
  exact ⟨v, rfl, hrow, hb⟩
end Go.Proofs.YtjfcmiocmcdjlaaGreatDoor.G
