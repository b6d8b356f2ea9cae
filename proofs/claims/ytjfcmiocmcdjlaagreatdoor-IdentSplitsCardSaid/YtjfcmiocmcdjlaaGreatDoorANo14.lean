/- casemap.Check at no data; folding a text then: the same text. -/
import Derived.Test.YtjfcmiocmcdjlaaGreatDoorANo13
namespace Go.Proofs.YtjfcmiocmcdjlaaGreatDoor.G
open Go.RowKit Go.Proofs.YtjfcmiocmcdjlaaGreatDoorW.PrintWords Go.Proofs.YtjfcmiocmcdjlaaGreatDoorW.PrintLast Go.Proofs.YtjfcmiocmcdjlaaGreatDoorW.PrintMore
open Go.Uc
set_option linter.unusedVariables false
/-- No data of case. -/
def noC : Value := .agg #[.slice none 0 0, .slice none 0 0, .slice none 0 0, .slice none 0 0, .slice none 0 0, .slice none 0 0]
/-- Block b holds no data of case. -/
structure NoCB (w : World) (b : Nat) : Prop where
  is : w.heap[b]? = some (.cells #[.slice none 0 0, .slice none 0 0, .slice none 0 0, .slice none 0 0, .slice none 0 0, .slice none 0 0] 47 (0, 0))
theorem NoCB.at {w : World} {b : Nat} (h : NoCB w b) (k : Nat) (hk : k < 6) : w.cell? ⟨b, k, none⟩ = some (.slice none 0 0) := by
  refine cell_at h.is ?_
  rcases (by omega : k = 0 ∨ k = 1 ∨ k = 2 ∨ k = 3 ∨ k = 4 ∨ k = 5) with rfl | rfl | rfl | rfl | rfl | rfl <;> rfl
theorem NoCB.lt {w : World} {b : Nat} (h : NoCB w b) : b < w.heap.size := (Array.getElem?_eq_some_iff.1 h.is).1
theorem NoCB.below {w w' : World} {b : Nat} (h : NoCB w b) (hB : Below w.heap.size w w') : NoCB w' b := ⟨(hB.block _ h.lt).trans h.is⟩
theorem NoCB.new (w : World) : NoCB (w.alloc (.cells #[.slice none 0 0, .slice none 0 0, .slice none 0 0, .slice none 0 0, .slice none 0 0, .slice none 0 0] 47)) w.heap.size := ⟨World.alloc_heap_new w _⟩
/-- Block b holds four lists without mappings. -/
structure Four (w : World) (b : Nat) : Prop where
  is : w.heap[b]? = some (.cells #[.slice none 0 0, .slice none 0 0, .slice none 0 0, .slice none 0 0] 43 (0, 0))
theorem Four.at {w : World} {b : Nat} (h : Four w b) (k : Nat) (hk : k < 4) : w.cell? ⟨b, k, none⟩ = some (.slice none 0 0) := by
  refine cell_at h.is ?_
  rcases (by omega : k = 0 ∨ k = 1 ∨ k = 2 ∨ k = 3) with rfl | rfl | rfl | rfl <;> rfl
theorem Four.below {w w' : World} {b : Nat} (h : Four w b) (hB : Below w.heap.size w w') : Four w' b := ⟨(hB.block _ (Array.getElem?_eq_some_iff.1 h.is).1).trans h.is⟩
theorem build125 (w : World) : (Instr.buildSlice 125 4 #[(0, .slice none 0 0), (1, .slice none 0 0), (2, .slice none 0 0), (3, .slice none 0 0)]).run Tryz.prog w = .ok (.slice (some ⟨w.heap.size, 0, none⟩) 4 4) (w.alloc (.cells #[.slice none 0 0, .slice none 0 0, .slice none 0 0, .slice none 0 0] 43)) := by
  have u := run_underlying Tryz.underlying125
  have s3 : ∀ W, (Go.sizeOf 43).run Tryz.prog W = .ok 1 W := fun W => by kernel_rfl
  have z3 : ∀ W, (zeroValue 43).run Tryz.prog W = .ok (.slice none 0 0) W := fun W => by kernel_rfl
  simp [Instr.buildSlice, u, s3, z3, go_sem]
set_option maxRecDepth 100000 in
set_option maxHeartbeats 8000000 in
theorem case67 (w : World) : Calls Tryz.prog 67 #[noC] w fun e w' => e = .returned (.int .i64 0) ∧ Below w.heap.size w w' := by
  have hu47 := Tryz.underlying47
  have hu125 := Tryz.underlying125
  have hbl := build125
  have N0 := NoCB.new w
  have hB0 : Below w.heap.size w (w.alloc (.cells #[.slice none 0 0, .slice none 0 0, .slice none 0 0, .slice none 0 0, .slice none 0 0, .slice none 0 0] 47)) := (Below.refl _ w).alloc (Nat.le_refl _) _
  have hs0 : (w.alloc (.cells #[.slice none 0 0, .slice none 0 0, .slice none 0 0, .slice none 0 0, .slice none 0 0, .slice none 0 0] 47)).heap.size = w.heap.size + 1 := by simp
  have F0 : Four ((w.alloc (.cells #[.slice none 0 0, .slice none 0 0, .slice none 0 0, .slice none 0 0, .slice none 0 0, .slice none 0 0] 47)).alloc (.cells #[.slice none 0 0, .slice none 0 0, .slice none 0 0, .slice none 0 0] 43)) (w.heap.size + 1) := ⟨by rw [← hs0]; exact World.alloc_heap_new _ _⟩
  have hB1 := hB0.alloc hB0.size (.cells #[.slice none 0 0, .slice none 0 0, .slice none 0 0, .slice none 0 0] 43)
  have N1 := N0.below ((Below.refl _ _).alloc (Nat.le_refl _) (.cells #[.slice none 0 0, .slice none 0 0, .slice none 0 0, .slice none 0 0] 43))
  have x0 := N0.at 0 (by omega); have x1 := N0.at 1 (by omega); have x2 := N0.at 2 (by omega); have x3 := N0.at 3 (by omega)
  unfold noC
  go_enter Tryz.func67, Tryz.ntmps67
  go_wp2_with fail
  clear x0 x1 x2 x3
  go_loopw [20] (fun i wr => ∃ k : Nat, k ≤ 4 ∧ i = .int .i64 k ∧ Four wr (w.heap.size + 1) ∧ NoCB wr w.heap.size ∧ Below w.heap.size w wr) (fun i _ => 4 - (intOf i).toNat)
  case atStart => exact ⟨0, by omega, rfl, F0, N1, hB1⟩
  case round =>
    clear N0 hB0 hs0 F0 hB1 N1
    obtain ⟨k, hk, rfl, F, N, hB⟩ := hrel
    have hsz := hB.size
    by_cases hlt : k < 4
    · have hc := F.at k hlt
      go_wp2_with (first
        | (go_at_call 95; refine (nilMap95 _).mono ?_; rintro e w2 ⟨rfl, hb⟩))
      go_roundw
      case rel => exact ⟨k + 1, by omega, by go_num, F.below hb, N.below hb, hB.trans (hb.mono hsz)⟩
      case measure => simp [intOf]; omega
    · obtain rfl : k = 4 := by omega
      have x0 := N.at 0 (by omega); have x1 := N.at 1 (by omega); have x2 := N.at 2 (by omega); have x3 := N.at 3 (by omega)
      have F2 : Four (wr.alloc (.cells #[.slice none 0 0, .slice none 0 0, .slice none 0 0, .slice none 0 0] 43)) wr.heap.size := ⟨World.alloc_heap_new _ _⟩
      have hB2 := hB.alloc hsz (.cells #[.slice none 0 0, .slice none 0 0, .slice none 0 0, .slice none 0 0] 43)
      have N2 := N.below ((Below.refl _ _).alloc (Nat.le_refl _) (.cells #[.slice none 0 0, .slice none 0 0, .slice none 0 0, .slice none 0 0] 43))
      go_wp2_with fail
      clear x0 x1 x2 x3
      go_loopw [40] (fun i w3 => ∃ k : Nat, k ≤ 4 ∧ i = .int .i64 k ∧ Four w3 wr.heap.size ∧ NoCB w3 w.heap.size ∧ Below w.heap.size w w3) (fun i _ => 4 - (intOf i).toNat)
      case atStart => exact ⟨0, by omega, rfl, F2, N2, hB2⟩
      case round =>
        clear F N hB F2 hB2 N2
        obtain ⟨k, hk, rfl, F, N, hB⟩ := hrel
        have hsz := hB.size
        by_cases hlt : k < 4
        · have hc := F.at k hlt
          go_wp2_with (first | (refine wp_loop_once ?_))
          go_roundw
          case rel => exact ⟨k + 1, by omega, by go_num, F, N, hB⟩
          case measure => simp [intOf]; omega
        · obtain rfl : k = 4 := by omega
          have x4 := N.at 4 (by omega)
          have HB := Lib.hid hB
          clear hB
          go_wp2_with (first
            | (go_at_call 96; refine (nilSet96 _).mono ?_; rintro e w4 ⟨rfl, hb⟩
               first
               | (have x5 := (N.below hb).at 5 (by omega)
                  have HB4 := Lib.hid (HB.out.trans (hb.mono HB.out.size))
                  clear N HB hb x4)
               | (have HB5 := Lib.hid (HB4.out.trans (hb.mono HB4.out.size)))))
          go_ret
          exact ⟨rfl, HB5.out⟩
end Go.Proofs.YtjfcmiocmcdjlaaGreatDoor.G
