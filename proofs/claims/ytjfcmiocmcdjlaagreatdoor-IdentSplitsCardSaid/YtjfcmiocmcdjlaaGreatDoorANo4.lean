/- decompose.Check at no data. -/
import Derived.Test.YtjfcmiocmcdjlaaGreatDoorANo3
import Derived.Test.YtjfcmiocmcdjlaaGreatDoorAIt10
import Derived.Test.YtjfcmiocmcdjlaaGreatDoorAMap
import Derived.Laws.EntriesVeiled
namespace Go.Proofs.YtjfcmiocmcdjlaaGreatDoor.G
open Go.RowKit Go.Proofs.YtjfcmiocmcdjlaaGreatDoorW.PrintWords Go.Proofs.YtjfcmiocmcdjlaaGreatDoorW.PrintLast Go.Proofs.YtjfcmiocmcdjlaaGreatDoorW.PrintMore
open Go.Uc
set_option linter.unusedVariables false
/-- No data of normalization. -/
def noN : Value := .agg #[.slice none 0 0, .slice none 0 0, .slice none 0 0]
set_option maxRecDepth 100000 in
theorem kinds117 (w : World) : Calls Tryz.prog 117 #[noN] w fun e w' => e = .returned (.int .i64 0) ∧ Below w.heap.size w w' := by
  have hu45 := Tryz.underlying45
  have hB0 : Below w.heap.size w (w.alloc (.cells #[.slice none 0 0, .slice none 0 0, .slice none 0 0] 45)) := (Below.refl _ w).alloc (Nat.le_refl _) _
  unfold noN
  go_enter Tryz.func117, Tryz.ntmps117
  go_wp2_with (first
    | (refine wp_loop_once ?_)
    | (go_at_call 135; refine (nilHolds135 (.func (.func 136) #[] #[]) _).mono ?_; rintro e w1 ⟨rfl, hB1⟩)
    | (go_at_call 135; refine (nilHolds135 (.func (.func 137) #[] #[.pointer (some ⟨w.heap.size, 0, none⟩)]) _).mono ?_; rintro e w2 ⟨rfl, hB2⟩))
  go_ret
  exact ⟨rfl, hB0.trans ((hB1.mono hB0.size).trans (hB2.mono (by have := hB0.size; have := hB1.size; omega)))⟩
/-- Block b: loaded data, without mappings; what was found so far. -/
structure NoD (w : World) (b : Nat) (q : Bool) (fnd : List (Int × Value)) : Prop where
  is : ∃ m0 m1, w.heap[b]? = some (.cells #[.map (some m0), .bool q, .map (some m1)] 130 (0, 0)) ∧ Go.Uc.MapAt w m0 (Value.int .i64) [] ∧ Go.Uc.MapAt w m1 (Value.int .i64) fnd
theorem load69 (q : Bool) (w : World) : Calls Tryz.prog 69 #[.slice none 0 0, .bool q] w fun e w' => ∃ b, e = .returned (.pointer (some ⟨b, 0, none⟩)) ∧ w.heap.size ≤ b ∧ NoD w' b q [] ∧ Below w.heap.size w w' := by
  have hmm := @run_makeMap Tryz.prog
  have hu130 := Tryz.underlying130
  go_enter Tryz.func69, Tryz.ntmps69
  go_wp2_with (first
    | (refine wp_loop_once ?_))
  have hB1 : Below w.heap.size w (w.alloc (.map #[] 0)) := (Below.refl _ w).alloc (Nat.le_refl _) _
  have hm0 := Go.Uc.MapAt.made w (Value.int .i64)
  have hm1 := Go.Uc.MapAt.made (w.alloc (.map #[] 0)) (Value.int .i64)
  have hs2 : ((w.alloc (.map #[] 0)).alloc (.map #[] 0)).heap.size = w.heap.size + 1 + 1 := by simp
  have hnew := World.alloc_heap_new ((w.alloc (.map #[] 0)).alloc (.map #[] 0)) (.cells #[.map (some w.heap.size), .bool q, .map (some (w.heap.size + 1))] 130)
  rw [hs2] at hnew
  have hs1 : (w.alloc (.map #[] 0)).heap.size = w.heap.size + 1 := by simp
  rw [hs1] at hm1
  go_ret
  exact ⟨_, rfl, by omega, ⟨_, _, hnew, (hm0.alloc _).alloc _, hm1.alloc _⟩, (hB1.alloc (by simp) _).alloc (by rw [hs2]; omega) _⟩
theorem NoD.below {w w' : World} {b : Nat} {q : Bool} {fnd : List (Int × Value)} (h : NoD w b q fnd) (hB : Below w.heap.size w w') : NoD w' b q fnd := by
  obtain ⟨m0, m1, h1, h2, h3⟩ := h.is
  exact ⟨m0, m1, (hB.block _ (Array.getElem?_eq_some_iff.1 h1).1).trans h1, h2.below hB, h3.below hB⟩
set_option maxRecDepth 100000 in
theorem cyclic118 (b : Nat) (q : Bool) (fnd : List (Int × Value)) (w : World) (h : NoD w b q fnd) : Calls Tryz.prog 118 #[.pointer (some ⟨b, 0, none⟩)] w fun e w' => e = .returned (.bool false) ∧ Below w.heap.size w w' := by
  have hmm := @run_makeMap Tryz.prog
  have hu130 := Tryz.underlying130
  obtain ⟨m0, m1, hb, hM, hF⟩ := h.is
  have hlt := (Array.getElem?_eq_some_iff.1 hb).1
  obtain ⟨cl, hcl⟩ : ∃ cl : Value, cl = .func (.func 138) #[] #[.pointer (some ⟨w.heap.size, 0, none⟩), .pointer (some ⟨w.heap.size + 1 + 1, 0, none⟩), .pointer (some ⟨w.heap.size + 1 + 1 + 1, 0, none⟩)] := ⟨_, rfl⟩
  obtain ⟨W5, hW5⟩ : ∃ W5, W5 = (((w.alloc (.cells #[.pointer (some ⟨b, 0, none⟩)] 98)).alloc (.map #[] 0)).alloc (.cells #[.map (some (w.heap.size + 1))] 169)).alloc (.cells #[cl] 57) := ⟨_, rfl⟩
  have hB1 : Below w.heap.size w (w.alloc (.cells #[.pointer (some ⟨b, 0, none⟩)] 98)) := (Below.refl _ w).alloc (Nat.le_refl _) _
  have hB5 : Below w.heap.size w W5 := hW5 ▸ ((hB1.alloc (by simp) _).alloc (by simp; omega) _).alloc (by simp; omega) _
  have ho1 : W5.heap[w.heap.size]? = some (.cells #[.pointer (some ⟨b, 0, none⟩)] 98 (0, 0)) := by
    rw [hW5]
    exact (Below.heap_alloc _ _ _ (by simp; omega)).trans ((Below.heap_alloc _ _ _ (by simp; omega)).trans ((Below.heap_alloc _ _ _ (by simp)).trans (World.alloc_heap_new w _)))
  have hc5 : W5.cell? ⟨w.heap.size, 0, none⟩ = some (.pointer (some ⟨b, 0, none⟩)) := cell_at ho1 rfl
  have hd5 : W5.cell? ⟨b, 0, none⟩ = some (.map (some m0)) := cell_at ((hB5.block _ hlt).trans hb) rfl
  have hM5 := hM.below hB5
  clear ho1 hB1
  subst hcl hW5
  go_enter Tryz.func118, Tryz.ntmps118
  go_wp2_with (first
    | (at_range; refine wpList_range_at rfl _ 128 rfl 3 95 Tryz.underlying128 m0 [] rfl hM5 ?_; intro hI))
  have hM6 := hM5.alloc (.mapIter (some m0) 0 #[] 0)
  have hB6 := hB5.alloc hB5.size (.mapIter (some m0) 0 #[] 0)
  refine wp_loop_once ?_
  go_wp2_with (first
    | (at_next; refine wpList_next_at rfl _ rfl m0 _ [] [] rfl hM6 hI ?_ ?_))
  go_wp2_with fail
  go_ret
  exact ⟨rfl, hB6⟩
set_option maxRecDepth 100000 in
theorem long119 (b : Nat) (q : Bool) (fnd : List (Int × Value)) (w : World) (h : NoD w b q fnd) : Calls Tryz.prog 119 #[.pointer (some ⟨b, 0, none⟩)] w fun e w' => e = .returned (.bool false) ∧ Below w.heap.size w w' := by
  have hmm := @run_makeMap Tryz.prog
  have hu130 := Tryz.underlying130
  obtain ⟨m0, m1, hb, hM, hF⟩ := h.is
  have hlt := (Array.getElem?_eq_some_iff.1 hb).1
  obtain ⟨cl, hcl⟩ : ∃ cl : Value, cl = .func (.func 140) #[] #[.pointer (some ⟨w.heap.size, 0, none⟩), .pointer (some ⟨w.heap.size + 1 + 1, 0, none⟩), .pointer (some ⟨w.heap.size + 1 + 1 + 1, 0, none⟩)] := ⟨_, rfl⟩
  obtain ⟨W5, hW5⟩ : ∃ W5, W5 = (((w.alloc (.cells #[.pointer (some ⟨b, 0, none⟩)] 98)).alloc (.map #[] 0)).alloc (.cells #[.map (some (w.heap.size + 1))] 169)).alloc (.cells #[cl] 132) := ⟨_, rfl⟩
  have hB1 : Below w.heap.size w (w.alloc (.cells #[.pointer (some ⟨b, 0, none⟩)] 98)) := (Below.refl _ w).alloc (Nat.le_refl _) _
  have hB5 : Below w.heap.size w W5 := hW5 ▸ ((hB1.alloc (by simp) _).alloc (by simp; omega) _).alloc (by simp; omega) _
  have ho1 : W5.heap[w.heap.size]? = some (.cells #[.pointer (some ⟨b, 0, none⟩)] 98 (0, 0)) := by
    rw [hW5]
    exact (Below.heap_alloc _ _ _ (by simp; omega)).trans ((Below.heap_alloc _ _ _ (by simp; omega)).trans ((Below.heap_alloc _ _ _ (by simp)).trans (World.alloc_heap_new w _)))
  have hc5 : W5.cell? ⟨w.heap.size, 0, none⟩ = some (.pointer (some ⟨b, 0, none⟩)) := cell_at ho1 rfl
  have hd5 : W5.cell? ⟨b, 0, none⟩ = some (.map (some m0)) := cell_at ((hB5.block _ hlt).trans hb) rfl
  have hM5 := hM.below hB5
  clear ho1 hB1
  subst hcl hW5
  go_enter Tryz.func119, Tryz.ntmps119
  go_wp2_with (first
    | (at_range; refine wpList_range_at rfl _ 128 rfl 3 95 Tryz.underlying128 m0 [] rfl hM5 ?_; intro hI))
  have hM6 := hM5.alloc (.mapIter (some m0) 0 #[] 0)
  have hB6 := hB5.alloc hB5.size (.mapIter (some m0) 0 #[] 0)
  refine wp_loop_once ?_
  go_wp2_with (first
    | (at_next; refine wpList_next_at rfl _ rfl m0 _ [] [] rfl hM6 hI ?_ ?_))
  go_wp2_with fail
  go_ret
  exact ⟨rfl, hB6⟩
end Go.Proofs.YtjfcmiocmcdjlaaGreatDoor.G
