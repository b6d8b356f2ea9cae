/- decompose.Check at no data. -/
import Derived.Test.YtjfcmiocmcdjlaaGreatDoorANo2
namespace Go.Proofs.YtjfcmiocmcdjlaaGreatDoor.G
open Go.RowKit Go.Proofs.YtjfcmiocmcdjlaaGreatDoorW.PrintWords Go.Proofs.YtjfcmiocmcdjlaaGreatDoorW.PrintLast Go.Proofs.YtjfcmiocmcdjlaaGreatDoorW.PrintMore
set_option linter.unusedVariables false
theorem nilIndex149 (f : Value) (w : World) : Calls Tryz.prog 149 #[.slice none 0 0, f] w fun e w' => e = .returned (.int .i64 (-1)) ∧ Below w.heap.size w w' := by
  go_enter Tryz.func149, Tryz.ntmps149
  go_wp2_with (first | (refine wp_loop_once ?_))
  go_ret
  exact ⟨rfl, Below.refl _ _⟩
theorem nilIndex150 (f : Value) (w : World) : Calls Tryz.prog 150 #[.slice none 0 0, f] w fun e w' => e = .returned (.int .i64 (-1)) ∧ Below w.heap.size w w' := by
  go_enter Tryz.func150, Tryz.ntmps150
  go_wp2_with (first | (refine wp_loop_once ?_))
  go_ret
  exact ⟨rfl, Below.refl _ _⟩
theorem nilHolds133 (f : Value) (w : World) : Calls Tryz.prog 133 #[.slice none 0 0, f] w fun e w' => e = .returned (.bool false) ∧ Below w.heap.size w w' := by
  go_enter Tryz.func133, Tryz.ntmps133
  go_wp2_with (first | (go_at_call 149; refine (nilIndex149 f _).mono ?_; rintro e w1 ⟨rfl, hB1⟩))
  go_ret
  exact ⟨rfl, hB1⟩
theorem nilHolds135 (f : Value) (w : World) : Calls Tryz.prog 135 #[.slice none 0 0, f] w fun e w' => e = .returned (.bool false) ∧ Below w.heap.size w w' := by
  go_enter Tryz.func135, Tryz.ntmps135
  go_wp2_with (first | (go_at_call 150; refine (nilIndex150 f _).mono ?_; rintro e w1 ⟨rfl, hB1⟩))
  go_ret
  exact ⟨rfl, hB1⟩
theorem nilOrder116 (w : World) : Calls Tryz.prog 116 #[.slice none 0 0] w fun e w' => e = .returned (.int .i64 0) ∧ Below w.heap.size w w' := by
  go_enter Tryz.func116, Tryz.ntmps116
  go_wp2_with (first | (refine wp_loop_once ?_) | (go_at_call 133; refine (nilHolds133 _ _).mono ?_; rintro e w1 ⟨rfl, hB1⟩))
  go_ret
  exact ⟨rfl, hB1⟩
theorem nilSorted114 (f : Value) (w : World) : Calls Tryz.prog 114 #[.slice none 0 0, f] w fun e w' => e = .returned (.bool true) ∧ Below w.heap.size w w' := by
  go_enter Tryz.func114, Tryz.ntmps114
  go_wp2_with (first | (refine wp_loop_once ?_))
  go_ret
  exact ⟨rfl, Below.refl _ _⟩
theorem nilMap113 (w : World) : Calls Tryz.prog 113 #[.slice none 0 0] w fun e w' => e = .returned (.int .i64 0) ∧ Below w.heap.size w w' := by
  have hmm := @run_makeMap Tryz.prog
  go_enter Tryz.func113, Tryz.ntmps113
  go_wp2_with (first | (refine wp_loop_once ?_))
  go_ret
  exact ⟨rfl, (Below.refl _ w).alloc (Nat.le_refl _) _⟩
theorem nilMap95 (w : World) : Calls Tryz.prog 95 #[.slice none 0 0] w fun e w' => e = .returned (.int .i64 0) ∧ Below w.heap.size w w' := by
  go_enter Tryz.func95, Tryz.ntmps95
  go_wp2_with (first | (go_at_call 113; refine (nilMap113 _).mono ?_; rintro e w1 ⟨rfl, hB1⟩) | (go_at_call 114; refine (nilSorted114 _ _).mono ?_; rintro e w2 ⟨rfl, hB2⟩))
  go_ret
  exact ⟨rfl, hB1.trans (hB2.mono hB1.size)⟩
theorem own_slice0 {W : World} {base : Nat} {v : Value} {ys : List Value} (h : W.ownsRow base 32 2 v 0 ys) : ∃ A c, v = .slice A 0 c := by
  rcases h.2 with ⟨h, _⟩ | ⟨g, cap, cur, h, _⟩
  · exact ⟨none, 0, h⟩
  · exact ⟨_, _, h⟩
set_option maxRecDepth 100000 in
theorem nilSet96 (w : World) : Calls Tryz.prog 96 #[.agg #[.slice none 0 0]] w fun e w' => e = .returned (.bool true) ∧ Below w.heap.size w w' := by
  have hu24 := Tryz.underlying24
  have hfd24_0 : ∀ (q0 : Value) (W : World), (Instr.field 24 (.agg #[q0]) 0).run Tryz.prog W = .ok (q0) W := fun q0 W => by rfl
  have hB0 : Below w.heap.size w (w.alloc (.cells #[.slice none 0 0] 24)) := (Below.refl _ w).alloc (Nat.le_refl _) _
  have hc0 : (w.alloc (.cells #[.slice none 0 0] 24)).cell? ⟨w.heap.size, 0, none⟩ = some (.slice none 0 0) := by simp
  have hmk := make48 none 0 [] (w.alloc (.cells #[.slice none 0 0] 24)) (Kd.C_nil _ _) (Nat.le_refl _) (by simp)
  have hml : (makeL []).length = 0 := Nat.le_zero.1 (makeL_length [])
  rw [hml, List.length_nil] at hmk
  go_enter Tryz.func96, Tryz.ntmps96
  go_wp2_with (first
    | (refine wp_loop_once ?_)
    | (go_at_call 48; refine hmk.mono ?_; rintro e w1 ⟨v, rfl, hown, hB1⟩
       obtain ⟨A1, c1, rfl⟩ := own_slice0 hown
       have hc1 : w1.cell? ⟨w.heap.size, 0, none⟩ = some (.slice none 0 0) := (hB1.cell (p := ⟨w.heap.size, 0, none⟩) (by simp)).trans hc0))
  go_ret
  exact ⟨rfl, hB0.trans (hB1.mono hB0.size)⟩
end Go.Proofs.YtjfcmiocmcdjlaaGreatDoor.G
