/- The data that decompose and compose use: none where there are none. -/
import Derived.Test.YtjfcmiocmcdjlaaGreatDoorANo5
namespace Go.Proofs.YtjfcmiocmcdjlaaGreatDoor.G
open Go.RowKit Go.Proofs.YtjfcmiocmcdjlaaGreatDoorW.PrintWords Go.Proofs.YtjfcmiocmcdjlaaGreatDoorW.PrintLast Go.Proofs.YtjfcmiocmcdjlaaGreatDoorW.PrintMore
open Go.Uc
set_option linter.unusedVariables false
set_option maxRecDepth 100000 in
theorem valid68 (w : World) : Calls Tryz.prog 68 #[noN] w fun e w' => e = .returned noN ∧ Below w.heap.size w w' := by
  have hu45 := Tryz.underlying45
  have hB0 : Below w.heap.size w ((w.alloc (.cells #[.slice none 0 0, .slice none 0 0, .slice none 0 0] 45)).alloc (.cells #[.slice none 0 0, .slice none 0 0, .slice none 0 0] 45)) := ((Below.refl _ w).alloc (Nat.le_refl _) _).alloc (by simp) _
  have N0 := (NoB.new w).below (NoB.new_below _)
  have M0 := NoB.new (w.alloc (.cells #[.slice none 0 0, .slice none 0 0, .slice none 0 0] 45))
  rw [show (w.alloc (.cells #[.slice none 0 0, .slice none 0 0, .slice none 0 0] 45)).heap.size = w.heap.size + 1 from by simp] at M0
  have N0 := Lib.hid N0
  have M0 := Lib.hid M0
  have HB0 := Lib.hid hB0
  clear hB0
  unfold noN
  go_enter Tryz.func68, Tryz.ntmps68
  go_wp2_with (first
    | (go_at_call 97; refine (check97 _).mono ?_; rintro e w1 ⟨rfl, hB⟩
       have N1 := N0.out.below hB
       have M1 := M0.out.below hB
       have HB1 := Lib.hid (HB0.out.trans (hB.mono HB0.out.size))
       have x0 := N1.c0; have x1 := N1.c1; have x2 := N1.c2
       have f0 : ∀ k, w1.frozen? ⟨w.heap.size + 1, k, none⟩ = false := fun k => by simp [World.frozen?, M1.is]
       have y0 := M1.c0; have y1 := M1.c1; have y2 := M1.c2
       clear N0 HB0 hB))
  exact bodyPost_ret (v := .agg #[.slice none 0 0, .slice none 0 0, .slice none 0 0]) (by simp [results, Tryz.results68, go_sem, x0, x1, x2, y0, y1, y2]) rfl ⟨rfl, ((HB1.out.setCell (p := ⟨w.heap.size + 1, 0, none⟩) (by simp) _).setCell (p := ⟨w.heap.size + 1, 1, none⟩) (by simp) _).setCell (p := ⟨w.heap.size + 1, 2, none⟩) (by simp) _⟩
set_option maxRecDepth 100000 in
theorem valid72 (w : World) : Calls Tryz.prog 72 #[noN] w fun e w' => e = .returned noN ∧ Below w.heap.size w w' := by
  have hu45 := Tryz.underlying45
  have hB0 : Below w.heap.size w ((w.alloc (.cells #[.slice none 0 0, .slice none 0 0, .slice none 0 0] 45)).alloc (.cells #[.slice none 0 0, .slice none 0 0, .slice none 0 0] 45)) := ((Below.refl _ w).alloc (Nat.le_refl _) _).alloc (by simp) _
  have N0 := (NoB.new w).below (NoB.new_below _)
  have M0 := NoB.new (w.alloc (.cells #[.slice none 0 0, .slice none 0 0, .slice none 0 0] 45))
  rw [show (w.alloc (.cells #[.slice none 0 0, .slice none 0 0, .slice none 0 0] 45)).heap.size = w.heap.size + 1 from by simp] at M0
  have N0 := Lib.hid N0
  have M0 := Lib.hid M0
  have HB0 := Lib.hid hB0
  clear hB0
  unfold noN
  go_enter Tryz.func72, Tryz.ntmps72
  go_wp2_with (first
    | (go_at_call 97; refine (check97 _).mono ?_; rintro e w1 ⟨rfl, hB⟩
       have N1 := N0.out.below hB
       have M1 := M0.out.below hB
       have HB1 := Lib.hid (HB0.out.trans (hB.mono HB0.out.size))
       have x0 := N1.c0; have x1 := N1.c1; have x2 := N1.c2
       have f0 : ∀ k, w1.frozen? ⟨w.heap.size + 1, k, none⟩ = false := fun k => by simp [World.frozen?, M1.is]
       have y0 := M1.c0; have y1 := M1.c1; have y2 := M1.c2
       clear N0 HB0 hB))
  exact bodyPost_ret (v := .agg #[.slice none 0 0, .slice none 0 0, .slice none 0 0]) (by simp [results, Tryz.results72, go_sem, x0, x1, x2, y0, y1, y2]) rfl ⟨rfl, ((HB1.out.setCell (p := ⟨w.heap.size + 1, 0, none⟩) (by simp) _).setCell (p := ⟨w.heap.size + 1, 1, none⟩) (by simp) _).setCell (p := ⟨w.heap.size + 1, 2, none⟩) (by simp) _⟩
end Go.Proofs.YtjfcmiocmcdjlaaGreatDoor.G
