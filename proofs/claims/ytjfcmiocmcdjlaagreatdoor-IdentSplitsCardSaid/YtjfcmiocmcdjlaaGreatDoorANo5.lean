/- decompose.Check at no data; the data that are used then. -/
import Derived.Test.YtjfcmiocmcdjlaaGreatDoorANo4
namespace Go.Proofs.YtjfcmiocmcdjlaaGreatDoor.G
open Go.RowKit Go.Proofs.YtjfcmiocmcdjlaaGreatDoorW.PrintWords Go.Proofs.YtjfcmiocmcdjlaaGreatDoorW.PrintLast Go.Proofs.YtjfcmiocmcdjlaaGreatDoorW.PrintMore
open Go.Uc
set_option linter.unusedVariables false
/-- Block b holds no data of normalization. -/
structure NoB (w : World) (b : Nat) : Prop where
  is : w.heap[b]? = some (.cells #[.slice none 0 0, .slice none 0 0, .slice none 0 0] 45 (0, 0))
theorem NoB.c0 {w : World} {b : Nat} (h : NoB w b) : w.cell? ⟨b, 0, none⟩ = some (.slice none 0 0) := cell_at h.is rfl
theorem NoB.c1 {w : World} {b : Nat} (h : NoB w b) : w.cell? ⟨b, 1, none⟩ = some (.slice none 0 0) := cell_at h.is rfl
theorem NoB.c2 {w : World} {b : Nat} (h : NoB w b) : w.cell? ⟨b, 2, none⟩ = some (.slice none 0 0) := cell_at h.is rfl
theorem NoB.lt {w : World} {b : Nat} (h : NoB w b) : b < w.heap.size := (Array.getElem?_eq_some_iff.1 h.is).1
theorem NoB.below {w w' : World} {b : Nat} (h : NoB w b) (hB : Below w.heap.size w w') : NoB w' b := ⟨(hB.block _ h.lt).trans h.is⟩
theorem NoB.new_below (w : World) (o : Obj := .cells #[.slice none 0 0, .slice none 0 0, .slice none 0 0] 45) : Below w.heap.size w (w.alloc o) := (Below.refl _ w).alloc (Nat.le_refl _) _
theorem NoB.new (w : World) : NoB (w.alloc (.cells #[.slice none 0 0, .slice none 0 0, .slice none 0 0] 45)) w.heap.size := ⟨World.alloc_heap_new w _⟩
set_option maxRecDepth 100000 in
set_option maxHeartbeats 2000000 in
theorem check97 (w : World) : Calls Tryz.prog 97 #[noN] w fun e w' => e = .returned (.int .i64 0) ∧ Below w.heap.size w w' := by
  have hu45 := Tryz.underlying45
  have hB0 : Below w.heap.size w (w.alloc (.cells #[.slice none 0 0, .slice none 0 0, .slice none 0 0] 45)) := (Below.refl _ w).alloc (Nat.le_refl _) _
  have N0 := Lib.hid (NoB.new w)
  have HB0 := Lib.hid hB0
  clear hB0
  unfold noN
  go_enter Tryz.func97, Tryz.ntmps97
  go_wp2_with (first
    | (go_at_call 116; refine (nilOrder116 _).mono ?_; rintro e w1 ⟨rfl, hB⟩
       have N1 := Lib.hid (N0.out.below hB)
       have HB1 := Lib.hid (HB0.out.trans (hB.mono HB0.out.size))
       have x1 := N1.out.c1; have x2 := N1.out.c2; have x0 := N1.out.c0
       clear N0 HB0 hB)
    | (go_at_call 95; refine (nilMap95 _).mono ?_; rintro e w2 ⟨rfl, hB⟩
       have N2 := Lib.hid (N1.out.below hB)
       have HB2 := Lib.hid (HB1.out.trans (hB.mono HB1.out.size))
       have y1 := N2.out.c1; have y2 := N2.out.c2; have y0 := N2.out.c0
       clear N1 HB1 hB x0 x1 x2)
    | (go_at_call 96; refine (nilSet96 _).mono ?_; rintro e w3 ⟨rfl, hB⟩
       have N3 := Lib.hid (N2.out.below hB)
       have HB3 := Lib.hid (HB2.out.trans (hB.mono HB2.out.size))
       have x1 := N3.out.c1; have x2 := N3.out.c2; have x0 := N3.out.c0
       clear N2 HB2 hB y0 y1 y2)
    | (go_at_call 117; refine (kinds117 _).mono ?_; rintro e w4 ⟨rfl, hB⟩
       have N4 := Lib.hid (N3.out.below hB)
       have HB4 := Lib.hid (HB3.out.trans (hB.mono HB3.out.size))
       have y1 := N4.out.c1
       clear N3 HB3 hB x0 x1 x2)
    | (go_at_call 69; have NX := N4; clear NX; refine (load69 true _).mono ?_; rintro e w5 ⟨b5, rfl, _, D5, hB⟩
       have N5 := Lib.hid (N4.out.below hB)
       have HB5 := Lib.hid (HB4.out.trans (hB.mono HB4.out.size))
       clear N4 HB4 hB y1)
    | (go_at_call 118; refine (cyclic118 b5 true [] _ D5).mono ?_; rintro e w6 ⟨rfl, hB⟩
       have N6 := Lib.hid (N5.out.below hB)
       have HB6 := Lib.hid (HB5.out.trans (hB.mono HB5.out.size))
       have D6 := D5.below hB
       clear N5 HB5 hB D5)
    | (go_at_call 119; have NX := N6; clear NX; refine (long119 b5 true [] _ D6).mono ?_; rintro e w7 ⟨rfl, hB⟩
       have N7 := Lib.hid (N6.out.below hB)
       have HB7 := Lib.hid (HB6.out.trans (hB.mono HB6.out.size))
       have x1 := N7.out.c1
       clear N6 HB6 hB D6)
    | (go_at_call 69; refine (load69 false _).mono ?_; rintro e w8 ⟨b8, rfl, _, D8, hB⟩
       have HB8 := Lib.hid (HB7.out.trans (hB.mono HB7.out.size))
       clear N7 HB7 hB x1)
    | (go_at_call 119; refine (long119 b8 false [] _ D8).mono ?_; rintro e w9 ⟨rfl, hB⟩
       have HB9 := Lib.hid (HB8.out.trans (hB.mono HB8.out.size))
       clear HB8 hB D8))
  go_ret
  exact ⟨rfl, HB9.out⟩
end Go.Proofs.YtjfcmiocmcdjlaaGreatDoor.G
