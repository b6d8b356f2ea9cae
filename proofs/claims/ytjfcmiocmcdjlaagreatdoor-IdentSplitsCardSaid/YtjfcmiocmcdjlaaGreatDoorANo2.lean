/- hangul.Compose. -/
import Derived.Test.YtjfcmiocmcdjlaaGreatDoorANo1
namespace Go.Proofs.YtjfcmiocmcdjlaaGreatDoor.G
open Go.RowKit Go.Proofs.YtjfcmiocmcdjlaaGreatDoorW.PrintWords Go.Proofs.YtjfcmiocmcdjlaaGreatDoorW.PrintLast Go.Proofs.YtjfcmiocmcdjlaaGreatDoorW.PrintMore
set_option linter.unusedVariables false
theorem kindF_one {c : Int} (h : kindF c = 1) : 4352 ≤ c ∧ c < 4371 := by
  unfold kindF idx at h
  repeat' split at h
  all_goals omega
theorem kindF_two {c : Int} (h : kindF c = 2) : 4449 ≤ c ∧ c < 4470 := by
  unfold kindF idx at h
  repeat' split at h
  all_goals omega
theorem kindF_three {c : Int} (h : kindF c = 3) : 4520 ≤ c ∧ c < 4547 := by
  unfold kindF idx at h
  repeat' split at h
  all_goals omega
theorem kindF_four {c : Int} (h : kindF c = 4) : 44032 ≤ c ∧ c < 55204 ∧ (c - 44032) % 28 = 0 := by
  unfold kindF idx at h
  repeat' split at h
  all_goals omega
theorem kindF_low {c : Int} (h : c < 4352) : kindF c = 0 := by
  unfold kindF idx
  rw [if_neg (by rw [if_pos (by omega)]; omega), if_neg (by rw [if_pos (by omega)]; omega), if_neg (by rw [if_pos (by omega)]; omega), if_neg (by rw [if_pos (by omega)]; omega)]
/-- The syllable of two code points, and whether there is one. -/
def composeF (a b : Int) : Int × Bool :=
  if kindF a = 1 ∧ kindF b = 2 then (44032 + ((a - 4352) * 21 + b - 4449) * 28, true)
  else if kindF a = 4 ∧ kindF b = 3 then (a + b - 4520 + 1, true) else (0, false)
theorem eq107 (a b c d : Int) (w : World) : (Op.equalIn 10000 107 (.agg #[.int .i64 a, .int .i64 b]) (.agg #[.int .i64 c, .int .i64 d])).run Tryz.prog w = .ok (a == c && b == d) w := by
  have u3 := Tryz.underlying3
  have a3 := Tryz.isAgg3
  have z3 := Tryz.sizeOf3
  rw [show (10000 : Nat) = 9999 + 1 from rfl, Op.equalIn]
  simp only [Sem.run_bind, run_underlying Tryz.underlying107, Result.andThen_ok]
  simp only [Std.Legacy.Range.forIn_eq_forIn_range', Std.Legacy.Range.size, Nat.sub_zero, Nat.add_sub_cancel, Nat.div_one, List.range'_succ, List.range'_zero, List.forIn_cons, List.forIn_nil]
  go_simp
  by_cases h1 : a = c <;> by_cases h2 : b = d <;> simp [h1, h2]
theorem int_beq_and (a b c d : Int) : (a == c && b == d) = decide (a = c ∧ b = d) := by
  by_cases h1 : a = c <;> by_cases h2 : b = d <;> simp [h1, h2]
set_option maxRecDepth 100000 in
theorem compose75 (a b : Int) (w : World) : Calls Tryz.prog 75 #[.int .i64 a, .int .i64 b] w fun e w' => e = .returned (.tuple #[.int .i64 (composeF a b).1, .bool (composeF a b).2]) ∧ Below w.heap.size w w' := by
  have ca := fun W => kind104 a W
  have cb := fun W => kind104 b W
  have hu107 := Tryz.underlying107
  have he1 : ∀ W, (Op.equalIn 10000 107 (.agg #[.int .i64 (kindF a), .int .i64 (kindF b)]) (.agg #[.int .i64 1, .int .i64 2])).run Tryz.prog W = .ok (decide (kindF a = 1 ∧ kindF b = 2)) W := fun W => by rw [eq107, int_beq_and]
  have he2 : ∀ W, (Op.equalIn 10000 107 (.agg #[.int .i64 (kindF a), .int .i64 (kindF b)]) (.agg #[.int .i64 4, .int .i64 3])).run Tryz.prog W = .ok (decide (kindF a = 4 ∧ kindF b = 3)) W := fun W => by rw [eq107, int_beq_and]
  by_cases h : kindF a = 1 ∧ kindF b = 2
  · have hr : composeF a b = (44032 + ((a - 4352) * 21 + b - 4449) * 28, true) := by rw [composeF, if_pos h]
    rw [hr]
    have h1 := kindF_one h.1
    have h2 := kindF_two h.2
    simp only [decide_eq_true h] at he1
    clear hr he2 h
    generalize kindF a = ka at *
    generalize kindF b = kb at *
    go_enter Tryz.func75, Tryz.ntmps75
    go_wp2_with (first | (go_at_call 104; refine (ca _).mono ?_; rintro e w1 ⟨rfl, hB1⟩; clear ca) | (go_at_call 104; refine (cb _).mono ?_; rintro e w2 ⟨rfl, hB2⟩; clear cb))
    exact bodyPost_ret (v := .tuple #[.int .i64 (44032 + ((a - 4352) * 21 + b - 4449) * 28), .bool true]) (by simp [results, Tryz.results75, go_sem]) rfl ⟨rfl, hB1.trans (hB2.mono hB1.size)⟩
  · simp only [decide_eq_false h] at he1
    by_cases h' : kindF a = 4 ∧ kindF b = 3
    · have hr : composeF a b = (a + b - 4520 + 1, true) := by rw [composeF, if_neg h, if_pos h']
      rw [hr]
      have h1 := kindF_four h'.1
      have h2 := kindF_three h'.2
      simp only [decide_eq_true h'] at he2
      clear hr h h'
      generalize kindF a = ka at *
      generalize kindF b = kb at *
      go_enter Tryz.func75, Tryz.ntmps75
      go_wp2_with (first | (go_at_call 104; refine (ca _).mono ?_; rintro e w1 ⟨rfl, hB1⟩; clear ca) | (go_at_call 104; refine (cb _).mono ?_; rintro e w2 ⟨rfl, hB2⟩; clear cb))
      exact bodyPost_ret (v := .tuple #[.int .i64 (a + b - 4520 + 1), .bool true]) (by simp [results, Tryz.results75, go_sem]) rfl ⟨rfl, hB1.trans (hB2.mono hB1.size)⟩
    · have hr : composeF a b = (0, false) := by rw [composeF, if_neg h, if_neg h']
      rw [hr]
      simp only [decide_eq_false h'] at he2
      clear hr h h'
      generalize kindF a = ka at *
      generalize kindF b = kb at *
      go_enter Tryz.func75, Tryz.ntmps75
      go_wp2_with (first | (go_at_call 104; refine (ca _).mono ?_; rintro e w1 ⟨rfl, hB1⟩; clear ca) | (go_at_call 104; refine (cb _).mono ?_; rintro e w2 ⟨rfl, hB2⟩; clear cb))
      exact bodyPost_ret (v := .tuple #[.int .i64 0, .bool false]) (by simp [results, Tryz.results75, go_sem]) rfl ⟨rfl, hB1.trans (hB2.mono hB1.size)⟩
end Go.Proofs.YtjfcmiocmcdjlaaGreatDoor.G
