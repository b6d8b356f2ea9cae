/- ordering.Sort at no classes: the same text. -/
import Derived.Test.YtjfcmiocmcdjlaaGreatDoorANo7
namespace Go.Proofs.YtjfcmiocmcdjlaaGreatDoor.G
open Go.RowKit Go.Proofs.YtjfcmiocmcdjlaaGreatDoorW.PrintWords Go.Proofs.YtjfcmiocmcdjlaaGreatDoorW.PrintLast Go.Proofs.YtjfcmiocmcdjlaaGreatDoorW.PrintMore
open Go.Uc
set_option linter.unusedVariables false
theorem finder99 (w : World) : Calls Tryz.prog 99 #[.slice none 0 0] w fun e w' => e = .returned (.func (.func 122) #[] #[.pointer (some ⟨w.heap.size, 0, none⟩)]) ∧ w'.heap[w.heap.size]? = some (.cells #[.slice none 0 0] 42 (0, 0)) ∧ Below w.heap.size w w' := by
  have hB0 : Below w.heap.size w (w.alloc (.cells #[.slice none 0 0] 42)) := (Below.refl _ w).alloc (Nat.le_refl _) _
  have x0 := World.alloc_heap_new w (.cells #[.slice none 0 0] 42)
  go_enter Tryz.func99, Tryz.ntmps99
  go_wp2_with (first
    | (go_at_call 116; refine (nilOrder116 _).mono ?_; rintro e w1 ⟨rfl, hB1⟩))
  go_ret
  exact ⟨rfl, (hB1.block _ (by simp)).trans x0, hB0.trans (hB1.mono hB0.size)⟩
theorem search0 (b1 b2 : Nat) (w : World) : Calls Tryz.prog 38 #[.int .i64 0, .func (.func 123) #[] #[.pointer (some ⟨b1, 0, none⟩), .pointer (some ⟨b2, 0, none⟩)]] w fun e w' => e = .returned (.int .i64 0) ∧ Below w.heap.size w w' := by
  go_enter Tryz.func38, Tryz.ntmps38
  go_wp2_with (first | (refine wp_loop_once ?_))
  go_ret
  exact ⟨rfl, Below.refl _ _⟩
theorem class122 (b : Nat) (c : Int) (w : World) (h : w.heap[b]? = some (.cells #[.slice none 0 0] 42 (0, 0))) : Calls Tryz.prog 122 #[.int .i64 c, .pointer (some ⟨b, 0, none⟩)] w fun e w' => e = .returned (.int .i64 0) ∧ Below w.heap.size w w' := by
  have hB0 : Below w.heap.size w (w.alloc (.cells #[.int .i64 c] 3)) := (Below.refl _ w).alloc (Nat.le_refl _) _
  have h0 := (hB0.block _ (Array.getElem?_eq_some_iff.1 h).1).trans h
  have x0 : (w.alloc (.cells #[.int .i64 c] 3)).cell? ⟨b, 0, none⟩ = some (.slice none 0 0) := cell_at h0 rfl
  have cs := fun W => search0 b w.heap.size W
  go_enter Tryz.func122, Tryz.ntmps122
  go_wp2_with (first
    | (go_at_call 38; refine (cs _).mono ?_; rintro e w1 ⟨rfl, hB1⟩
       have h1 := (hB1.block _ (Array.getElem?_eq_some_iff.1 h0).1).trans h0
       have x1 : w1.cell? ⟨b, 0, none⟩ = some (.slice none 0 0) := cell_at h1 rfl
       have HB1 := Lib.hid (hB0.trans (hB1.mono hB0.size))
       clear cs x0 h0 hB0 hB1))
  repeat (go_quiet (fail))
  go_wp2_with fail
  go_ret
  exact ⟨rfl, pw_below_drewN HB1.out _⟩
theorem class74 (c : Int) (w : World) : Calls Tryz.prog 74 #[.slice none 0 0, .int .i64 c] w fun e w' => e = .returned (.int .i64 0) ∧ Below w.heap.size w w' := by
  go_enter Tryz.func74, Tryz.ntmps74
  go_wp2_with (first
    | (go_at_call 99; refine (finder99 _).mono ?_; rintro e w1 ⟨rfl, h1, hB1⟩)
    | (go_at_call 122; refine (class122 _ c _ h1).mono ?_; rintro e w2 ⟨rfl, hB2⟩))
  go_ret
  exact ⟨rfl, hB1.trans (hB2.mono hB1.size)⟩
theorem runs100 (f T : Value) (w : World) (hf : ∃ g l, f = .func (.func g) #[] l) (hT : ∃ A n c, T = .slice A n c) : Calls Tryz.prog 100 #[f, T] w fun e w' => e = .returned (.func (.func 124) #[] #[.pointer (some ⟨w.heap.size + 1, 0, none⟩), .pointer (some ⟨w.heap.size, 0, none⟩)]) ∧ w'.heap[w.heap.size]? = some (.cells #[f] 132 (0, 0)) ∧ w'.heap[w.heap.size + 1]? = some (.cells #[T] 27 (0, 0)) ∧ Below w.heap.size w w' := by
  obtain ⟨A, n, c, rfl⟩ := hT
  obtain ⟨g, l, rfl⟩ := hf
  go_enter Tryz.func100, Tryz.ntmps100
  go_wp2_with fail
  go_ret
  refine ⟨rfl, (Below.heap_alloc _ _ _ (by simp)).trans (World.alloc_heap_new w _), ?_, ((Below.refl _ w).alloc (Nat.le_refl _) _).alloc (by simp) _⟩
  have := World.alloc_heap_new (w.alloc (.cells #[.func (.func g) #[] l] 132)) (.cells #[.slice A n c] 27)
  simpa using this
end Go.Proofs.YtjfcmiocmcdjlaaGreatDoor.G
