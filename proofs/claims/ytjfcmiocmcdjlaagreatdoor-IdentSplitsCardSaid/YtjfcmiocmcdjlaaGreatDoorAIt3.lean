/- A set's finder: sort.Search over its ranges; cpset.Has. -/
import Derived.Test.YtjfcmiocmcdjlaaGreatDoorAIt2
import Derived.Test.YtjfcmiocmcdjlaaGreatDoorACb
import Derived.Deep.QuietTactic
import Derived.BigQuiet
namespace Go.Proofs.YtjfcmiocmcdjlaaGreatDoor.G
open Go.RowKit Go.Proofs.YtjfcmiocmcdjlaaGreatDoorW.PrintWords Go.Proofs.YtjfcmiocmcdjlaaGreatDoorW.PrintLast Go.Proofs.YtjfcmiocmcdjlaaGreatDoorW.PrintMore
set_option linter.unusedVariables false
set_option maxHeartbeats 400000 in
theorem pred39 (b1 b2 : Nat) (A : Option Addr) (c : Nat) (M : List S32) (x : Int) (i : Nat) (w : World) (h1 : w.cell? ⟨b1, 0, none⟩ = some (.slice A M.length c)) (h2 : w.cell? ⟨b2, 0, none⟩ = some (.int .i64 x))
    (hC : Kd.C k32 w A M.length M) (hc : M.length ≤ c) (hi : i < M.length) :
    Calls Tryz.prog 39 #[.int .i64 i, .pointer (some ⟨b1, 0, none⟩), .pointer (some ⟨b2, 0, none⟩)] w fun e w' => e = .returned (.bool (decide (x ≤ (M.getD i z32).f1))) ∧ Drawn0 w w' := by
  have hu32 := Tryz.underlying32
  obtain ⟨ad, rfl, f0, f1⟩ := at_T32 hC i (by omega) (by omega)
  have hx : rd_T32 M i = M.getD i z32 := rfl
  rw [hx] at f0 f1
  generalize M.getD i z32 = y at f0 f1 ⊢
  simp only [Int.toNat_natCast] at f0 f1
  go_enter Tryz.func39, Tryz.ntmps39
  go_wp2_with fail
  go_quiet (fail)
  go_wp2_with fail
  go_ret
  exact ⟨rfl, ⟨_, rfl⟩⟩
set_option maxHeartbeats 1000000 in
theorem search38 (b1 b2 : Nat) (A : Option Addr) (c : Nat) (M : List S32) (x : Int) (w : World) (h1 : w.cell? ⟨b1, 0, none⟩ = some (.slice A M.length c)) (h2 : w.cell? ⟨b2, 0, none⟩ = some (.int .i64 x))
    (hC : Kd.C k32 w A M.length M) (hc : M.length ≤ c) (hM : M.length ≤ 1000000000) (hs : ∀ i j, i < j → j < M.length → (M.getD i z32).f1 < (M.getD j z32).f1) :
    Calls Tryz.prog 38 #[.int .i64 M.length, .func (.func 39) #[] #[.pointer (some ⟨b1, 0, none⟩), .pointer (some ⟨b2, 0, none⟩)]] w fun e w' =>
      ∃ k : Nat, e = .returned (.int .i64 k) ∧ k ≤ M.length ∧ (∀ j, j < k → (M.getD j z32).f1 < x) ∧ (∀ j, k ≤ j → j < M.length → x ≤ (M.getD j z32).f1) ∧ Drawn0 w w' := by
  go_enter Tryz.func38, Tryz.ntmps38
  go_wp2_with fail
  go_loopw [5, 6] (fun i j wr => ∃ a b : Nat, i = .int .i64 a ∧ j = .int .i64 b ∧ a ≤ b ∧ b ≤ M.length ∧ (∀ k, k < a → (M.getD k z32).f1 < x) ∧ (∀ k, b ≤ k → k < M.length → x ≤ (M.getD k z32).f1) ∧ Drawn0 w wr) (fun i j _ => (intOf j).toNat - (intOf i).toNat)
  case atStart => exact ⟨0, M.length, rfl, rfl, Nat.zero_le _, Nat.le_refl _, fun k h => absurd h (Nat.not_lt_zero _), fun k h1 h2 => absurd h2 (by omega), ⟨0, rfl⟩⟩
  case round =>
    obtain ⟨a, b, rfl, rfl, hab, hbl, hlo, hhi, ⟨q, rfl⟩⟩ := hrel
    by_cases hlt : a < b
    · obtain ⟨m, hm⟩ : ∃ m, m = (a + b) / 2 := ⟨_, rfl⟩
      have hmi : ((a : Int) + b) / 2 = (m : Int) := by omega
      have hma : a ≤ m := by omega
      have hmb : m < b := by omega
      have hy := pred39 b1 b2 A c M x m (w.drewN q) (by simpa using h1) (by simpa using h2) (Kd.C_drewN hC q) hc (by omega)
      obtain ⟨y, hyy⟩ : ∃ y, y = M.getD m z32 := ⟨_, rfl⟩
      rw [← hyy] at hy
      clear hm
      go_wp2_with (first | (go_at_call 39; refine hy.mono ?_; rintro e w' ⟨rfl, ⟨q2, rfl⟩⟩))
      · next hno =>
        have hlt2 : (M.getD m z32).f1 < x := by
          rw [List.getD_eq_getElem?_getD]
          simpa using hno
        refine ⟨⟨m + 1, b, by go_num, rfl, by omega, hbl, fun k hk => ?_, hhi, ⟨_, rfl⟩⟩, by simp [intOf]; omega⟩
        rcases (by omega : k < m ∨ k = m) with h | rfl
        · have := hs k m h (by omega); omega
        · exact hlt2
      · next hyes =>
        have hle : x ≤ (M.getD m z32).f1 := by
          rw [List.getD_eq_getElem?_getD]
          simpa using hyes
        refine ⟨⟨a, m, rfl, rfl, hma, by omega, hlo, fun k hk hkl => ?_, ⟨_, rfl⟩⟩, by simp [intOf]; omega⟩
        rcases (by omega : m < k ∨ k = m) with h | rfl
        · have := hs m k h hkl; omega
        · exact hle
    · obtain rfl : a = b := by omega
      go_wp2_with fail
      go_ret
      exact ⟨a, rfl, hbl, hlo, hhi, ⟨q, rfl⟩⟩
/-- What a finder is: a closure over a box that holds the set's ranges, made. -/
def Finds (W : World) (v : Value) (l : List S32) : Prop :=
  ∃ b A c, v = .func (.func 37) #[] #[.pointer (some ⟨b, 0, none⟩)] ∧ b < W.heap.size ∧ W.cell? ⟨b, 0, none⟩ = some (.slice A (makeL l).length c) ∧ Kd.C k32 W A (makeL l).length (makeL l) ∧ (makeL l).length ≤ c
theorem Finds.below {W W' : World} {v : Value} {l : List S32} (h : Finds W v l) (hB : Below W.heap.size W W') : Finds W' v l := by
  obtain ⟨b, A, c, e, hb, hc, hC, hl⟩ := h
  exact ⟨b, A, c, e, Nat.lt_of_lt_of_le hb hB.size, (hB.cell (p := ⟨b, 0, none⟩) hb).trans hc, Kd.C_below hC hB, hl⟩
theorem find37 (b : Nat) (A : Option Addr) (c : Nat) (M : List S32) (x : Int) (w : World) (hb : b < w.heap.size) (h1 : w.cell? ⟨b, 0, none⟩ = some (.slice A M.length c))
    (hC : Kd.C k32 w A M.length M) (hc : M.length ≤ c) (hM : M.length ≤ 1000000000) (hs : ∀ i j, i < j → j < M.length → (M.getD i z32).f1 < (M.getD j z32).f1) :
    Calls Tryz.prog 37 #[.int .i64 x, .pointer (some ⟨b, 0, none⟩)] w fun e w' =>
      ∃ k : Nat, e = .returned (.bool (decide (k < M.length) && decide ((M.getD k z32).f0 ≤ x))) ∧ k ≤ M.length ∧ (∀ j, j < k → (M.getD j z32).f1 < x) ∧ (∀ j, k ≤ j → j < M.length → x ≤ (M.getD j z32).f1) ∧ Below w.heap.size w w' := by
  have hu32 := Tryz.underlying32
  go_enter Tryz.func37, Tryz.ntmps37
  have hB : Below w.heap.size w (w.alloc (.cells #[.int .i64 x] 3)) := (Below.refl _ w).alloc (Nat.le_refl _) _
  have h1' : (w.alloc (.cells #[.int .i64 x] 3)).cell? ⟨b, 0, none⟩ = some (.slice A M.length c) := (hB.cell (p := ⟨b, 0, none⟩) hb).trans h1
  have hC' := Kd.C_below hC hB
  have h2 : (w.alloc (.cells #[.int .i64 x] 3)).cell? ⟨w.heap.size, 0, none⟩ = some (.int .i64 x) := by simp
  go_wp2_with (first | (go_at_call 38; refine (search38 b w.heap.size A c M x _ h1' h2 hC' hc hM hs).mono ?_; rintro e w' ⟨k, rfl, hk, hlo, hhi, ⟨q, rfl⟩⟩))
  have hB2 : Below w.heap.size w ((w.alloc (.cells #[.int .i64 x] 3)).drewN q) := pw_below_drewN hB q
  have g1 : ((w.alloc (.cells #[.int .i64 x] 3)).drewN q).cell? ⟨b, 0, none⟩ = some (.slice A M.length c) := by simpa using h1'
  have g2 : ((w.alloc (.cells #[.int .i64 x] 3)).drewN q).cell? ⟨w.heap.size, 0, none⟩ = some (.int .i64 x) := by simp
  have gC := Kd.C_drewN hC' q
  clear h1' h2 hC' hB h1 hC
  generalize (w.alloc (.cells #[.int .i64 x] 3)).drewN q = W2 at g1 g2 gC hB2 ⊢
  by_cases hkl : k < M.length
  · obtain ⟨ad, rfl, f0, f1⟩ := at_T32 gC k (by omega) (by omega)
    have hx : rd_T32 M k = M.getD k z32 := rfl
    rw [hx] at f0 f1
    have Hlo := Lib.hid hlo
    have Hhi := Lib.hid hhi
    clear hlo hhi hs
    obtain ⟨y, hy⟩ : ∃ y, y = M.getD k z32 := ⟨_, rfl⟩
    rw [← hy] at f0 f1
    simp only [Int.toNat_natCast] at f0 f1
    go_wp2_with fail
    repeat (go_quiet (fail))
    go_wp2_with fail
    go_ret
    exact ⟨k, by simp [hkl, ← hy], hk, Hlo.out, Hhi.out, pw_below_drewN hB2 _⟩
  · have Hlo := Lib.hid hlo
    have Hhi := Lib.hid hhi
    clear hlo hhi hs
    go_wp2_with fail
    repeat (go_quiet (fail))
    go_wp2_with fail
    go_ret
    exact ⟨k, by simp [hkl], hk, Hlo.out, Hhi.out, pw_below_drewN hB2 _⟩
end Go.Proofs.YtjfcmiocmcdjlaaGreatDoor.G
