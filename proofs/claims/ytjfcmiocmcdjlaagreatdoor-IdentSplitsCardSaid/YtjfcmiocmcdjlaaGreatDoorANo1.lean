/- hangul: kinds and compositions. -/
import Derived.Test.YtjfcmiocmcdjlaaGreatDoorAIt4
namespace Go.Proofs.YtjfcmiocmcdjlaaGreatDoor.G
open Go.RowKit Go.Proofs.YtjfcmiocmcdjlaaGreatDoorW.PrintWords Go.Proofs.YtjfcmiocmcdjlaaGreatDoorW.PrintLast Go.Proofs.YtjfcmiocmcdjlaaGreatDoorW.PrintMore
set_option linter.unusedVariables false
def idx (c f n : Int) : Int := if c < f ∨ f + n ≤ c then -1 else c - f
theorem index126 (c f n : Int) (hf : 0 ≤ f) (hn : 0 ≤ n) (hs : f + n < 4611686018427387904) (w : World) : Calls Tryz.prog 126 #[.int .i64 c, .int .i64 f, .int .i64 n] w fun e w' => e = .returned (.int .i64 (idx c f n)) ∧ Below w.heap.size w w' := by
  by_cases h1 : c < f
  · have e : idx c f n = -1 := by rw [idx, if_pos (Or.inl h1)]
    rw [e]
    go_enter Tryz.func126, Tryz.ntmps126
    go_wp2_with fail
    go_ret
    exact ⟨rfl, Below.refl _ _⟩
  · by_cases h2 : c ≥ f + n
    · have e : idx c f n = -1 := by rw [idx, if_pos (Or.inr h2)]
      rw [e]
      have h3 : decide (c ≥ f + n) = true := decide_eq_true h2
      go_enter Tryz.func126, Tryz.ntmps126
      go_wp2_with fail
      go_ret
      exact ⟨rfl, Below.refl _ _⟩
    · have e : idx c f n = c - f := by rw [idx, if_neg (by omega)]
      rw [e]
      go_enter Tryz.func126, Tryz.ntmps126
      go_wp2_with fail
      go_ret
      exact ⟨rfl, Below.refl _ _⟩
def kindF (c : Int) : Int :=
  if 0 ≤ idx c 44032 11172 then (if (idx c 44032 11172) % 28 = 0 then 4 else 5)
  else if 0 ≤ idx c 4352 19 then 1 else if 0 ≤ idx c 4449 21 then 2 else if 0 ≤ idx c 4520 27 then 3 else 0
set_option maxRecDepth 100000 in
theorem kind104 (c : Int) (w : World) : Calls Tryz.prog 104 #[.int .i64 c] w fun e w' => e = .returned (.int .i64 (kindF c)) ∧ Below w.heap.size w w' := by
  obtain ⟨i0, hi0⟩ : ∃ i, i = idx c 44032 11172 := ⟨_, rfl⟩
  obtain ⟨i1, hi1⟩ : ∃ i, i = idx c 4352 19 := ⟨_, rfl⟩
  obtain ⟨i2, hi2⟩ : ∃ i, i = idx c 4449 21 := ⟨_, rfl⟩
  obtain ⟨i3, hi3⟩ : ∃ i, i = idx c 4520 27 := ⟨_, rfl⟩
  have c0 := fun W => index126 c 44032 11172 (by omega) (by omega) (by omega) W
  have c1 := fun W => index126 c 4352 19 (by omega) (by omega) (by omega) W
  have c2 := fun W => index126 c 4449 21 (by omega) (by omega) (by omega) W
  have c3 := fun W => index126 c 4520 27 (by omega) (by omega) (by omega) W
  unfold kindF
  rw [← hi0, ← hi1, ← hi2, ← hi3]
  rw [← hi0] at c0
  rw [← hi1] at c1
  rw [← hi2] at c2
  rw [← hi3] at c3
  have hb : i0 < 11172 := by rw [hi0, idx]; split <;> omega
  clear hi0 hi1 hi2 hi3
  have hu107 := Tryz.underlying107
  have hu153 := Tryz.underlying153
  have hx0 : ∀ W, (Instr.index 153 (.agg #[.int .i64 4352, .int .i64 19, .int .i64 4449, .int .i64 21, .int .i64 4520, .int .i64 27]) (.int .i64 0)).run Tryz.prog W = .ok (.agg #[.int .i64 4352, .int .i64 19]) W := fun W => by kernel_rfl
  have hx1 : ∀ W, (Instr.index 153 (.agg #[.int .i64 4352, .int .i64 19, .int .i64 4449, .int .i64 21, .int .i64 4520, .int .i64 27]) (.int .i64 1)).run Tryz.prog W = .ok (.agg #[.int .i64 4449, .int .i64 21]) W := fun W => by kernel_rfl
  have hx2 : ∀ W, (Instr.index 153 (.agg #[.int .i64 4352, .int .i64 19, .int .i64 4449, .int .i64 21, .int .i64 4520, .int .i64 27]) (.int .i64 2)).run Tryz.prog W = .ok (.agg #[.int .i64 4520, .int .i64 27]) W := fun W => by kernel_rfl
  by_cases h0 : 0 ≤ i0
  · rw [if_pos h0]
    by_cases h1 : i0 % 28 = 0
    · rw [if_pos h1]
      go_enter Tryz.func104, Tryz.ntmps104
      go_wp2_with (first | (go_at_call 126; refine (c0 _).mono ?_; rintro e w1 ⟨rfl, hB1⟩))
      go_ret
      exact ⟨rfl, hB1⟩
    · rw [if_neg h1]
      go_enter Tryz.func104, Tryz.ntmps104
      go_wp2_with (first | (go_at_call 126; refine (c0 _).mono ?_; rintro e w1 ⟨rfl, hB1⟩))
      go_ret
      exact ⟨rfl, hB1⟩
  · rw [if_neg h0]
    obtain ⟨R, hR⟩ : ∃ R : Int, R = if 0 ≤ i1 then 1 else if 0 ≤ i2 then 2 else if 0 ≤ i3 then 3 else 0 := ⟨_, rfl⟩
    rw [← hR]
    have HR := Lib.hid hR
    clear hR
    have h0' : ¬ (i0 ≥ 0) := h0
    go_enter Tryz.func104, Tryz.ntmps104
    go_wp2_with (first | (go_at_call 126; refine (c0 _).mono ?_; rintro e w1 ⟨rfl, hB1⟩))
    go_loopw [17] (fun v wr => ∃ k : Nat, v = .int .i64 k ∧ k ≤ 3 ∧ (0 < k → i1 < 0) ∧ (1 < k → i2 < 0) ∧ (2 < k → i3 < 0) ∧ Below w.heap.size w wr) (fun v _ => 3 - (intOf v).toNat)
    case atStart => exact ⟨0, rfl, by omega, by omega, by omega, by omega, hB1⟩
    case round =>
      obtain ⟨k, rfl, hk, a1, a2, a3, hB⟩ := hrel
      have hs := hB.size
      have hBa : ∀ x, Below w.heap.size w (wr.alloc (.cells x 107)) := fun x => hB.alloc hs _
      rcases (show k = 0 ∨ k = 1 ∨ k = 2 ∨ k = 3 by omega) with rfl | rfl | rfl | rfl
      · by_cases g : 0 ≤ i1
        · have g' : i1 ≥ 0 := g
          go_wp2_with (first | (go_at_call 126; refine (c1 _).mono ?_; rintro e w2 ⟨rfl, hB2⟩))
          go_ret
          exact ⟨by have q := HR.out; rw [if_pos g] at q; exact q ▸ rfl, hB.trans ((((Below.refl _ wr).alloc (Nat.le_refl _) _).trans (hB2.mono (by simp))).mono hs)⟩
        · have g' : ¬ i1 ≥ 0 := g
          go_wp2_with (first | (go_at_call 126; refine (c1 _).mono ?_; rintro e w2 ⟨rfl, hB2⟩))
          go_roundw
          case rel => exact ⟨1, rfl, by omega, fun _ => by omega, by omega, by omega, hB.trans ((((Below.refl _ wr).alloc (Nat.le_refl _) _).trans (hB2.mono (by simp))).mono hs)⟩
          case measure => simp [intOf]
      · by_cases g : 0 ≤ i2
        · have g' : i2 ≥ 0 := g
          go_wp2_with (first | (go_at_call 126; refine (c2 _).mono ?_; rintro e w2 ⟨rfl, hB2⟩))
          go_ret
          exact ⟨by have q := HR.out; rw [if_neg (by have := a1 (by omega); omega)] at q; rw [if_pos g] at q; exact q ▸ rfl, hB.trans ((((Below.refl _ wr).alloc (Nat.le_refl _) _).trans (hB2.mono (by simp))).mono hs)⟩
        · have g' : ¬ i2 ≥ 0 := g
          go_wp2_with (first | (go_at_call 126; refine (c2 _).mono ?_; rintro e w2 ⟨rfl, hB2⟩))
          go_roundw
          case rel => exact ⟨2, rfl, by omega, fun _ => a1 (by omega), fun _ => by omega, by omega, hB.trans ((((Below.refl _ wr).alloc (Nat.le_refl _) _).trans (hB2.mono (by simp))).mono hs)⟩
          case measure => simp [intOf]
      · by_cases g : 0 ≤ i3
        · have g' : i3 ≥ 0 := g
          go_wp2_with (first | (go_at_call 126; refine (c3 _).mono ?_; rintro e w2 ⟨rfl, hB2⟩))
          go_ret
          exact ⟨by have q := HR.out; rw [if_neg (by have := a1 (by omega); omega)] at q; rw [if_neg (by have := a2 (by omega); omega)] at q; rw [if_pos g] at q; exact q ▸ rfl, hB.trans ((((Below.refl _ wr).alloc (Nat.le_refl _) _).trans (hB2.mono (by simp))).mono hs)⟩
        · have g' : ¬ i3 ≥ 0 := g
          go_wp2_with (first | (go_at_call 126; refine (c3 _).mono ?_; rintro e w2 ⟨rfl, hB2⟩))
          go_roundw
          case rel => exact ⟨3, rfl, by omega, fun _ => a1 (by omega), fun _ => a2 (by omega), fun _ => by omega, hB.trans ((((Below.refl _ wr).alloc (Nat.le_refl _) _).trans (hB2.mono (by simp))).mono hs)⟩
          case measure => simp [intOf]
      · go_wp2_with fail
        go_ret
        exact ⟨by have q := HR.out; rw [if_neg (by have := a1 (by omega); omega), if_neg (by have := a2 (by omega); omega), if_neg (by have := a3 (by omega); omega)] at q; exact q ▸ rfl, hB⟩
end Go.Proofs.YtjfcmiocmcdjlaaGreatDoor.G
