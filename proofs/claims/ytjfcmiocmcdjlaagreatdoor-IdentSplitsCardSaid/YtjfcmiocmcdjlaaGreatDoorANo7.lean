/- A low code point's decomposition at no data: itself. -/
import Derived.Test.YtjfcmiocmcdjlaaGreatDoorANo6
namespace Go.Proofs.YtjfcmiocmcdjlaaGreatDoor.G
open Go.RowKit Go.Proofs.YtjfcmiocmcdjlaaGreatDoorW.PrintWords Go.Proofs.YtjfcmiocmcdjlaaGreatDoorW.PrintLast Go.Proofs.YtjfcmiocmcdjlaaGreatDoorW.PrintMore
open Go.Uc
set_option linter.unusedVariables false
theorem zero95 (w : World) : (zeroValue 95).run Tryz.prog w = .ok (.agg #[.int .i64 0, .slice none 0 0, .string ⟨#[]⟩]) w := by kernel_rfl
theorem key3 : KeyLaw Tryz.prog 3 (Value.int .i64) := int_law Tryz.underlying3
theorem low120 (c : Int) (hc : kindF c < 4) (w : World) : Calls Tryz.prog 120 #[.int .i64 c] w fun e w' => ∃ b, e = .returned (.slice (some ⟨b, 0, none⟩) 1 1) ∧ Below w.heap.size w w' := by
  have ck := fun W => kind104 c W
  generalize kindF c = k at hc ck
  go_enter Tryz.func120, Tryz.ntmps120
  go_wp2_with (first
    | (go_at_call 104; refine (ck _).mono ?_; rintro e w1 ⟨rfl, hB1⟩))
  go_ret
  exact ⟨_, rfl, hB1.alloc hB1.size _⟩
set_option maxRecDepth 100000 in
theorem once98 (b : Nat) (q : Bool) (fnd : List (Int × Value)) (c : Int) (hc : c < 4352) (w : World) (h : NoD w b q fnd) :
    Calls Tryz.prog 98 #[.pointer (some ⟨b, 0, none⟩), .int .i64 c] w fun e w' => e = .returned (.tuple #[.slice none 0 0, .bool false]) ∧ Below w.heap.size w w' := by
  have hk : kindF c < 4 := by rw [kindF_low hc]; omega
  have ck := fun W => low120 c hk W
  have hu130 := Tryz.underlying130
  have hu95 := Tryz.underlying95
  clear hk hc
  go_enter Tryz.func98, Tryz.ntmps98
  go_wp2_with (first
    | (go_at_call 120; refine (ck _).mono ?_; rintro e w1 ⟨b1, rfl, hB1⟩
       obtain ⟨m0, m1, hb, hM, hF⟩ := (h.below hB1).is
       have x0 : w1.cell? ⟨b, 0, none⟩ = some (.map (some m0)) := cell_at hb rfl
       clear ck h hF)
    | (at_lookup; refine wpList_look2 rfl _ _ 128 rfl 3 95 key3 Tryz.underlying128 m0 [] rfl hM c rfl _ (zero95 _) (.agg #[.int .i64 0, .slice none 0 0, .string ⟨#[]⟩]) (by rfl) false (by rfl) ?_))
  exact bodyPost_ret (v := .tuple #[.slice none 0 0, .bool false]) (by simp [results, Tryz.results98, go_sem]) rfl ⟨rfl, hB1.alloc hB1.size _⟩
theorem full70 (b : Nat) (q : Bool) (fnd : List (Int × Value)) (c : Int) (hc : c < 4352) (w : World) (h : NoD w b q fnd) :
    Calls Tryz.prog 70 #[.pointer (some ⟨b, 0, none⟩), .int .i64 c] w fun e w' => ∃ k, e = .returned (.slice (some ⟨k, 0, none⟩) 1 1) ∧ Kd.C (Kd.int .i64) w' (some ⟨k, 0, none⟩) [c].length [c] ∧ Below w.heap.size w w' := by
  have ck := once98 b q fnd c hc w h
  clear h hc
  go_enter Tryz.func70, Tryz.ntmps70
  go_wp2_with (first
    | (go_at_call 98; refine ck.mono ?_; rintro e w1 ⟨rfl, hB1⟩; clear ck))
  go_ret
  exact ⟨_, rfl, C_int_one (blk_cell (heap_alloc_new _ _) 0), hB1.alloc hB1.size _⟩
end Go.Proofs.YtjfcmiocmcdjlaaGreatDoor.G
