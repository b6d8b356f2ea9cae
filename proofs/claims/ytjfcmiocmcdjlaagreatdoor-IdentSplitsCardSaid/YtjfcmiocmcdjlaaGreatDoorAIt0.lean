/- A range over a function whose iterator keeps a row of its own: what the iterator owes (SeqB), and the law of the statement at such an iterator. The body goes on in every round. -/
import Derived.RangeFuncNested
import Derived.RangeFuncBound
import Derived.RangeFuncCalls
import Derived.RangeFuncLeaves
import Derived.Shelf.Abstract
import Derived.Shelf.RegionOpen
import Derived.WalkKit
import Derived.OwnWalkIn
import Derived.TacticsInMore
import Derived.LoopNIn
import Derived.LoopIn
import Derived.Test.YtjfcmiocmcdjlaaGreatDoorProg
namespace Go.Proofs.YtjfcmiocmcdjlaaGreatDoor.G
open Go.RowKit Go.Shelf
set_option linter.unusedVariables false
/-- What the iterator owes: xs come, in their order, for whatever the caller keeps (J) between rounds, so that each round keeps what lies below n0, and one block b0 of the iterator's own choice that was laid since it began. -/
def SeqB {α : Type} (F : Fence) (n : Nat) (P : Program) (g : Nat) (lb : Array Value) (encs : α → Array Value) (n0 : Nat) (xs : List α) (w : World) : Prop :=
  ∀ (l : Nat) (J : Nat → List α → World → Prop) (W : World), Below w.heap.size w W →
    (∀ b0 s A B, J b0 s A → Below A.heap.size A B → J b0 s B) →
    (∀ b0 pre x W1, J b0 pre W1 → b0 < W1.heap.size → pre ++ [x] <+: xs → YieldAt F (n - 1) P l (encs x) W1 fun e W' => e = .returned (.bool true) ∧ J b0 (pre ++ [x]) W' ∧ Below n0 W1 W' ∧ W'.heap[b0]? = W1.heap[b0]?) →
    (∀ b0, W.heap.size ≤ b0 → J b0 [] W) →
    CallsIn F n P g (#[.func (.yield l) #[] #[]] ++ lb) W fun e W' => (∃ v, e = .returned v) ∧ ∃ b0, J b0 xs W'
/-- How a round's body ends: it goes on. -/
def postB (n0 b0 : Nat) (I : World → Prop) (W : World) : Exit → Act → World → Prop
  | .normal, _, W' => KeepsOthers W W' ∧ Below n0 W W' ∧ W'.heap[b0]? = W.heap[b0]? ∧ I W'
  | _, _, _ => False
variable {F : Fence} {n : Nat} {P : Program}
theorem wpIn_rangeFunc_B {α : Type} {g : Operand} {ps : Array Tmp} {assign body : Code} {Q : Exit → Act → World → Prop} {a : Act} {w : World}
    (hro : F.round = none) (h1 : 1 ≤ n) {gf : Nat} {lb : Array Value} (hg : a.eval g = .func (.func gf) #[] lb) (hFg : F.fn gf) (eg : ∀ args w, (callFunc gf args).run P w = .ok (.enter gf args) w)
    {encs : α → Array Value} {n0 : Nat} {xs : List α} {w0 : World} (hseq : SeqB F (n - 1) P gf lb encs n0 xs w0) (hn0 : n0 ≤ w.heap.size) (hb0 : Below w0.heap.size w0 w) (hps : ∀ x, (encs x).size = ps.size)
    (I : Nat → List α → World → Prop) (hI : ∀ b0 s A B, I b0 s A → Below A.heap.size A B → I b0 s B)
    (hIo : ∀ b0 s A l o o', I b0 s A → w.heap.size ≤ l → A.heap[l]? = some o → o.isCells = false → I b0 s (A.putObj l o')) (h0 : ∀ b0, w.heap.size ≤ b0 → I b0 [] w)
    (Ax : α → Act → World → Prop) (hAx : ∀ x a' A l o o', Ax x a' A → A.heap[l]? = some o → o.isCells = false → Ax x a' (A.putObj l o'))
    (hassign : ∀ (l : Nat) (x : α) (W : World) (K : Act → World → Prop), (∀ a' W', Below W.heap.size W W' → Ax x a' W' → K a' W') →
      assign.wpIn (F.inRound l) (n - 1 - 1) P (Exit.then K (fun _ _ _ => False)) { tmps := (ps.zip (encs x)).foldl (fun t (p, v) => t.setIfInBounds p v) a.tmps, defers := [] } W)
    (hbody : ∀ (l b0 : Nat) (pre : List α) (x : α) (a' : Act) (W : World), I b0 pre W → b0 < W.heap.size → w.heap.size ≤ b0 → Ax x a' W → pre ++ [x] <+: xs → body.wpIn (F.inRound l) (n - 1 - 1) P (postB n0 b0 (I b0 (pre ++ [x])) W) a' W)
    (hdone : ∀ (D b0 : Nat) (W : World), w.heap.size ≤ D → I b0 xs W → W.heap[D]? = some (.deferred (some [])) → Q .normal { a with defers := { target := .collected D, args := #[] } :: a.defers } W) :
    (Code.rangeFunc g ps assign body).wpIn F n P Q a w := by
  refine wpIn_rangeFunc ?_
  intro fn hfn
  rw [hro]
  obtain ⟨rec, hrec⟩ : ∃ rec : LoopState → Option Code → Loop, rec = fun st pe => { state := st, pending := pe, fn, tmps := a.tmps, params := ps, assign, body, defers := w.heap.size } := ⟨_, rfl⟩
  obtain ⟨W1, hW1⟩ : ∃ W1, (w.alloc (.deferred (some []))).alloc (.loop (rec .ready none)) = W1 := ⟨_, rfl⟩
  have hs1 : W1.heap.size = w.heap.size + 2 := by rw [← hW1]; simp
  have hL1 : W1.heap[w.heap.size + 1]? = some (.loop (rec .ready none)) := by
    rw [← hW1]; have := World.alloc_heap_new (w.alloc (.deferred (some []))) (.loop (rec .ready none)); rwa [World.size_alloc] at this
  have hK1 : W1.heap[w.heap.size]? = some (.deferred (some [])) := by
    rw [← hW1]; exact (Below.heap_alloc _ _ _ (by simp)).trans (World.alloc_heap_new w _)
  have hw1 : Below w.heap.size w W1 := by rw [← hW1]; exact ((Below.refl _ w).alloc (Nat.le_refl _) _).alloc (by simp) _
  have hb1 : Below w0.heap.size w0 W1 := hb0.trans (hw1.mono hb0.size)
  refine ⟨w.heap.size + 1, [{ target := .collected w.heap.size, args := #[] }], W1, { target := .fn (.func gf) lb, args := #[.func (.yield (w.heap.size + 1)) #[] #[]] }, W1, gf,
    #[.func (.yield (w.heap.size + 1)) #[] #[]] ++ lb, W1, ?_, ?_, ?_, ?_, fun _ => h1, ?_⟩
  · rw [← hW1, hrec]; exact run_enterLoop_outer _ _ _ _ _
  · simp only [resolve, hg]
    simp [go_sem]
  · intro f' hf'; simp [Target.leads] at hf'; subst hf'; exact hFg
  · simp [invoke, go_sem, eg]
  · refine (hseq (w.heap.size + 1)
      (fun b0 pre W => w.heap.size + 2 ≤ b0 ∧ I b0 pre W ∧ W.heap[w.heap.size + 1]? = some (.loop (rec .ready none)) ∧ W.heap[w.heap.size]? = some (.deferred (some [])))
      W1 hb1
      (fun b0 s A B hs hAB => ⟨hs.1, hI b0 s A B hs.2.1 hAB, (hAB.block _ (Array.getElem?_eq_some_iff.1 hs.2.2.1).1).trans hs.2.2.1, (hAB.block _ (Array.getElem?_eq_some_iff.1 hs.2.2.2).1).trans hs.2.2.2⟩)
      ?_ (fun b0 hb => ⟨by omega, hI b0 [] w W1 (h0 b0 (by omega)) hw1, hL1, hK1⟩)).mono ?_
    · rintro b0 pre x W ⟨hbb, hi, hl, hk⟩ hbW hpre
      have hlt : w.heap.size + 1 < W.heap.size := (Array.getElem?_eq_some_iff.1 hl).1
      have hy := run_yield (P := P) (args := encs x) hl (by rw [hrec]; exact hps x)
      rw [hrec] at hy
      refine ⟨fn, _, assign, body, hy, roundIn_of_wpIn hfn (hassign _ x W _ ?_)⟩
      clear hy
      intro a' Wa hka hax
      have hia : I b0 pre Wa := hI b0 pre W Wa hi hka
      have hla := (hka.block _ hlt).trans hl
      have hkk := (hka.block w.heap.size (by omega)).trans hk
      have hlta : w.heap.size + 1 < Wa.heap.size := (Array.getElem?_eq_some_iff.1 hla).1
      have hb0a : Wa.heap[b0]? = W.heap[b0]? := hka.block b0 hbW
      have hn0a : Below n0 W Wa := hka.mono (by omega)
      refine ⟨_, run_beginRound hla (by rw [hrec]), ?_⟩
      obtain ⟨W2, hW2⟩ : ∃ W2, Wa.putObj (w.heap.size + 1) (.loop { rec .ready none with state := .busy }) = W2 := ⟨_, rfl⟩
      have hl2 : W2.heap[w.heap.size + 1]? = some (.loop { rec .ready none with state := .busy }) := by rw [← hW2]; exact World.putObj_heap_same hlta
      have hk2 : W2.heap[w.heap.size]? = some (.deferred (some [])) := by rw [← hW2]; exact (World.putObj_heap_other (by omega)).trans hkk
      have hb02 : W2.heap[b0]? = Wa.heap[b0]? := by rw [← hW2]; exact World.putObj_heap_other (by omega)
      have hn02 : Below n0 Wa W2 := by rw [← hW2]; exact belowK_b (w := w) hn0 Wa _ _ _ (by omega) hla rfl rfl
      have hs2 : W2.heap.size = Wa.heap.size := by rw [← hW2]; simp [World.putObj]
      have hi2 : I b0 pre W2 := by rw [← hW2]; exact hIo b0 pre Wa _ _ _ hia (by omega) hla rfl
      have hx2 : Ax x a' W2 := by rw [← hW2]; exact hAx x a' Wa _ _ _ hax hla rfl
      have hgo := hbody (w.heap.size + 1) b0 pre x a' W2 hi2 (by have := hka.size; omega) (by omega) hx2 hpre
      have hW2' : Wa.putObj (w.heap.size + 1) (.loop { rec .ready none with state := .busy }) = W2 := hW2
      rw [hrec] at hW2'
      have hfin : ∀ e a3 W3, postB n0 b0 (I b0 (pre ++ [x])) W2 e a3 W3 → roundPost P (w.heap.size + 1) (fun e W' => e = .returned (.bool true) ∧ (w.heap.size + 2 ≤ b0 ∧ I b0 (pre ++ [x]) W' ∧ W'.heap[w.heap.size + 1]? = some (.loop (rec .ready none)) ∧ W'.heap[w.heap.size]? = some (.deferred (some []))) ∧ Below n0 W W' ∧ W'.heap[b0]? = W.heap[b0]?) e a3 W3 := by
        intro e a3 W3 hp
        cases e with
        | normal =>
          obtain ⟨hk3, hn3, hb3, hi3⟩ := hp
          have hl3 := hk3.same _ _ hl2 rfl
          have hr := run_endRound (P := P) none hl3
          have hlt3 := (Array.getElem?_eq_some_iff.1 hl3).1
          refine ⟨_, _, hr, rfl, ⟨hbb, hIo b0 _ W3 _ _ _ hi3 (by omega) hl3 rfl, ?_, (World.putObj_heap_other (by omega)).trans (hk3.same _ _ hk2 rfl)⟩, ?_, ?_⟩
          · rw [World.putObj_heap_same hlt3, hrec]; rfl
          · exact hn0a.trans (hn02.trans (hn3.trans (belowK_b (w := w) hn0 W3 _ _ _ (by omega) hl3 rfl rfl)))
          · exact (World.putObj_heap_other (by omega)).trans (hb3.trans (hb02.trans hb0a))
        | ret => exact hp.elim
        | exit id => exact hp.elim
        | goto t => exact hp.elim
        | panic ch => exact hp.elim
        | outgrown => exact hp.elim
      rw [hrec]
      rw [hW2']
      refine wpIn_mono hgo ?_
      intro e a3 W3 hp
      have := hfin e a3 W3 hp
      rw [hrec] at this
      exact this
    · rintro e W2 ⟨⟨v, rfl⟩, b0, hbb, hi, hl, hk⟩
      exact ⟨none, _, by have := run_endLoop (P := P) hl (by rw [hrec]; simp); rw [hrec] at this; exact this, hdone _ b0 _ (Nat.le_refl _) (hIo b0 _ _ _ _ _ hi (by omega) hl rfl) ((World.putObj_heap_other (by omega)).trans hk)⟩
theorem wpIn_rangeFunc_C {α : Type} {g : Operand} {ps : Array Tmp} {assign body : Code} {Q : Exit → Act → World → Prop} {a : Act} {w : World}
    (hro : F.round = none) (h1 : 1 ≤ n) {gf : Nat} {lb : Array Value} (hg : a.eval g = .func (.func gf) #[] lb) (hFg : F.fn gf) (eg : ∀ args w, (callFunc gf args).run P w = .ok (.enter gf args) w)
    {encs : α → Array Value} {n0 : Nat} {xs : List α} {w0 : World} (hseq : SeqB F (n - 1) P gf lb encs n0 xs w0) (hn0 : n0 ≤ w.heap.size) (hb0 : Below w0.heap.size w0 w) (hps : ∀ x, (encs x).size = ps.size)
    (I : Nat → List α → World → Prop) (hI : ∀ b0 s A B, I b0 s A → Below A.heap.size A B → I b0 s B)
    (hIo : ∀ b0 s A l o o', I b0 s A → w.heap.size ≤ l → A.heap[l]? = some o → o.isCells = false → I b0 s (A.putObj l o')) (h0 : ∀ b0, w.heap.size ≤ b0 → I b0 [] w)
    (hround : ∀ (l b0 : Nat) (pre : List α) (x : α) (W : World) (K : Act → World → Prop), I b0 pre W → b0 < W.heap.size → w.heap.size ≤ b0 → pre ++ [x] <+: xs →
      (∀ a' W', Below W.heap.size W W' → (∀ W2, W2.heap.size = W'.heap.size → I b0 pre W2 → (∀ (k : Nat) (o : Obj), W'.heap[k]? = some o → o.isCells = true → W2.heap[k]? = some o) →
        body.wpIn (F.inRound l) (n - 1 - 1) P (postB n0 b0 (I b0 (pre ++ [x])) W2) a' W2) → K a' W') →
      assign.wpIn (F.inRound l) (n - 1 - 1) P (Exit.then K (fun _ _ _ => False)) { tmps := (ps.zip (encs x)).foldl (fun t (p, v) => t.setIfInBounds p v) a.tmps, defers := [] } W)
    (hdone : ∀ (D b0 : Nat) (W : World), w.heap.size ≤ D → I b0 xs W → W.heap[D]? = some (.deferred (some [])) → Q .normal { a with defers := { target := .collected D, args := #[] } :: a.defers } W) :
    (Code.rangeFunc g ps assign body).wpIn F n P Q a w := by
  refine wpIn_rangeFunc ?_
  intro fn hfn
  rw [hro]
  obtain ⟨rec, hrec⟩ : ∃ rec : LoopState → Option Code → Loop, rec = fun st pe => { state := st, pending := pe, fn, tmps := a.tmps, params := ps, assign, body, defers := w.heap.size } := ⟨_, rfl⟩
  obtain ⟨W1, hW1⟩ : ∃ W1, (w.alloc (.deferred (some []))).alloc (.loop (rec .ready none)) = W1 := ⟨_, rfl⟩
  have hs1 : W1.heap.size = w.heap.size + 2 := by rw [← hW1]; simp
  have hL1 : W1.heap[w.heap.size + 1]? = some (.loop (rec .ready none)) := by
    rw [← hW1]; have := World.alloc_heap_new (w.alloc (.deferred (some []))) (.loop (rec .ready none)); rwa [World.size_alloc] at this
  have hK1 : W1.heap[w.heap.size]? = some (.deferred (some [])) := by
    rw [← hW1]; exact (Below.heap_alloc _ _ _ (by simp)).trans (World.alloc_heap_new w _)
  have hw1 : Below w.heap.size w W1 := by rw [← hW1]; exact ((Below.refl _ w).alloc (Nat.le_refl _) _).alloc (by simp) _
  have hb1 : Below w0.heap.size w0 W1 := hb0.trans (hw1.mono hb0.size)
  refine ⟨w.heap.size + 1, [{ target := .collected w.heap.size, args := #[] }], W1, { target := .fn (.func gf) lb, args := #[.func (.yield (w.heap.size + 1)) #[] #[]] }, W1, gf,
    #[.func (.yield (w.heap.size + 1)) #[] #[]] ++ lb, W1, ?_, ?_, ?_, ?_, fun _ => h1, ?_⟩
  · rw [← hW1, hrec]; exact run_enterLoop_outer _ _ _ _ _
  · simp only [resolve, hg]
    simp [go_sem]
  · intro f' hf'; simp [Target.leads] at hf'; subst hf'; exact hFg
  · simp [invoke, go_sem, eg]
  · refine (hseq (w.heap.size + 1)
      (fun b0 pre W => w.heap.size + 2 ≤ b0 ∧ I b0 pre W ∧ W.heap[w.heap.size + 1]? = some (.loop (rec .ready none)) ∧ W.heap[w.heap.size]? = some (.deferred (some [])))
      W1 hb1
      (fun b0 s A B hs hAB => ⟨hs.1, hI b0 s A B hs.2.1 hAB, (hAB.block _ (Array.getElem?_eq_some_iff.1 hs.2.2.1).1).trans hs.2.2.1, (hAB.block _ (Array.getElem?_eq_some_iff.1 hs.2.2.2).1).trans hs.2.2.2⟩)
      ?_ (fun b0 hb => ⟨by omega, hI b0 [] w W1 (h0 b0 (by omega)) hw1, hL1, hK1⟩)).mono ?_
    · rintro b0 pre x W ⟨hbb, hi, hl, hk⟩ hbW hpre
      have hlt : w.heap.size + 1 < W.heap.size := (Array.getElem?_eq_some_iff.1 hl).1
      have hy := run_yield (P := P) (args := encs x) hl (by rw [hrec]; exact hps x)
      rw [hrec] at hy
      refine ⟨fn, _, assign, body, hy, roundIn_of_wpIn hfn (hround _ b0 pre x W _ hi hbW (by omega) hpre ?_)⟩
      clear hy
      intro a' Wa hka hgo
      have hia : I b0 pre Wa := hI b0 pre W Wa hi hka
      have hla := (hka.block _ hlt).trans hl
      have hkk := (hka.block w.heap.size (by omega)).trans hk
      have hlta : w.heap.size + 1 < Wa.heap.size := (Array.getElem?_eq_some_iff.1 hla).1
      have hb0a : Wa.heap[b0]? = W.heap[b0]? := hka.block b0 hbW
      have hn0a : Below n0 W Wa := hka.mono (by omega)
      refine ⟨_, run_beginRound hla (by rw [hrec]), ?_⟩
      obtain ⟨W2, hW2⟩ : ∃ W2, Wa.putObj (w.heap.size + 1) (.loop { rec .ready none with state := .busy }) = W2 := ⟨_, rfl⟩
      have hl2 : W2.heap[w.heap.size + 1]? = some (.loop { rec .ready none with state := .busy }) := by rw [← hW2]; exact World.putObj_heap_same hlta
      have hk2 : W2.heap[w.heap.size]? = some (.deferred (some [])) := by rw [← hW2]; exact (World.putObj_heap_other (by omega)).trans hkk
      have hb02 : W2.heap[b0]? = Wa.heap[b0]? := by rw [← hW2]; exact World.putObj_heap_other (by omega)
      have hn02 : Below n0 Wa W2 := by rw [← hW2]; exact belowK_b (w := w) hn0 Wa _ _ _ (by omega) hla rfl rfl
      have hs2 : W2.heap.size = Wa.heap.size := by rw [← hW2]; simp [World.putObj]
      have hi2 : I b0 pre W2 := by rw [← hW2]; exact hIo b0 pre Wa _ _ _ hia (by omega) hla rfl
      replace hgo := hgo W2 hs2 hi2 (fun k o ho hoc => by
        rw [← hW2]
        refine (World.putObj_heap_other (fun e => ?_)).trans ho
        subst e
        rw [hla] at ho
        cases ho
        simp [Obj.isCells] at hoc)
      have hW2' : Wa.putObj (w.heap.size + 1) (.loop { rec .ready none with state := .busy }) = W2 := hW2
      rw [hrec] at hW2'
      have hfin : ∀ e a3 W3, postB n0 b0 (I b0 (pre ++ [x])) W2 e a3 W3 → roundPost P (w.heap.size + 1) (fun e W' => e = .returned (.bool true) ∧ (w.heap.size + 2 ≤ b0 ∧ I b0 (pre ++ [x]) W' ∧ W'.heap[w.heap.size + 1]? = some (.loop (rec .ready none)) ∧ W'.heap[w.heap.size]? = some (.deferred (some []))) ∧ Below n0 W W' ∧ W'.heap[b0]? = W.heap[b0]?) e a3 W3 := by
        intro e a3 W3 hp
        cases e with
        | normal =>
          obtain ⟨hk3, hn3, hb3, hi3⟩ := hp
          have hl3 := hk3.same _ _ hl2 rfl
          have hr := run_endRound (P := P) none hl3
          have hlt3 := (Array.getElem?_eq_some_iff.1 hl3).1
          refine ⟨_, _, hr, rfl, ⟨hbb, hIo b0 _ W3 _ _ _ hi3 (by omega) hl3 rfl, ?_, (World.putObj_heap_other (by omega)).trans (hk3.same _ _ hk2 rfl)⟩, ?_, ?_⟩
          · rw [World.putObj_heap_same hlt3, hrec]; rfl
          · exact hn0a.trans (hn02.trans (hn3.trans (belowK_b (w := w) hn0 W3 _ _ _ (by omega) hl3 rfl rfl)))
          · exact (World.putObj_heap_other (by omega)).trans (hb3.trans (hb02.trans hb0a))
        | ret => exact hp.elim
        | exit id => exact hp.elim
        | goto t => exact hp.elim
        | panic ch => exact hp.elim
        | outgrown => exact hp.elim
      rw [hrec]
      rw [hW2']
      refine wpIn_mono hgo ?_
      intro e a3 W3 hp
      have := hfin e a3 W3 hp
      rw [hrec] at this
      exact this
    · rintro e W2 ⟨⟨v, rfl⟩, b0, hbb, hi, hl, hk⟩
      exact ⟨none, _, by have := run_endLoop (P := P) hl (by rw [hrec]; simp); rw [hrec] at this; exact this, hdone _ b0 _ (Nat.le_refl _) (hIo b0 _ _ _ _ _ hi (by omega) hl rfl) ((World.putObj_heap_other (by omega)).trans hk)⟩
end Go.Proofs.YtjfcmiocmcdjlaaGreatDoor.G
