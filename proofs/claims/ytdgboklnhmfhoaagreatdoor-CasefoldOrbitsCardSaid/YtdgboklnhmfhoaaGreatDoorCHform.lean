/- casefold.Form at the levels that the example needs: 0, and what is no level. -/
import Derived.Test.YtdgboklnhmfhoaaGreatDoorCHfold
import Derived.Test.YtdgboklnhmfhoaaGreatDoorCShelf
namespace Go.Proofs.YtdgboklnhmfhoaaGreatDoor.G
open Go.RowKit Go.Proofs.YtdgboklnhmfhoaaGreatDoorW.PrintWords Go.Proofs.YtdgboklnhmfhoaaGreatDoorW.PrintLast Go.Proofs.YtdgboklnhmfhoaaGreatDoorW.PrintMore
open Go.Uc
set_option linter.unusedVariables false
/-- slices.Clone at a row of integers. -/
theorem clone36 (A : Option Addr) (c : Nat) (xs : List Int) (w : World) (h1 : Kd.C (Kd.int .i64) w A xs.length xs) (hl : xs.length ≤ 17592186044416) :
    Calls Tryz.prog 36 #[.slice A xs.length c] w fun e w' => ∃ v', e = .returned v' ∧ Kd.R (Kd.int .i64) 3 w' w.heap.size (fun _ => True) v' xs ∧ Below w.heap.size w w' := by
  cases A with
  | none =>
    have h0 : xs.length = 0 := by
      rcases Nat.eq_zero_or_pos xs.length with h | h
      · exact h
      · obtain ⟨ad, e, _⟩ := h1.2.2 h
        cases e
    have hx : xs = [] := List.length_eq_zero_iff.1 h0
    subst hx
    refine (Tryz.slices_Clone_int_nil _ c w).mono ?_
    rintro e w' ⟨rfl, rfl⟩
    exact ⟨_, rfl, Kd.R_nil _ _ _ _ _, Below.refl _ _⟩
  | some ad =>
    rcases Nat.eq_zero_or_pos xs.length with h0 | h0
    · have hx : xs = [] := List.length_eq_zero_iff.1 h0
      subst hx
      refine (Tryz.slices_Clone_int_zero ad c w).mono ?_
      rintro e w' ⟨v', rfl, ho, _, hb⟩
      exact ⟨_, rfl, Kd.R_of_own ho (fun _ _ => trivial), hb⟩
    · have k1 : ∀ j, j < xs.length → w.cell? (ad.add j) = some (.int .i64 (xs.getD j 0)) := fun j hj => by
        obtain ⟨_, e, h⟩ := C_int_cell h1 hj
        cases e; exact h
      have s1 : ad.spot = none := cell_spot (a := ad) (by simpa [Addr.add] using k1 0 h0)
      obtain ⟨b1, o1, t1⟩ := ad
      simp only at s1
      subst s1
      refine (Tryz.slices_Clone_int b1 o1 xs.length c xs w (Nat.le_refl _) (by omega) (fun j hj => by rw [← add_flat]; exact k1 j hj)).mono ?_
      rintro e w' ⟨v', rfl, ho, _, hb⟩
      rw [List.take_length] at ho
      exact ⟨_, rfl, Kd.R_of_own ho (fun _ _ => trivial), hb⟩
def casefold_Form.f (l0_0 : List S154) (l0_1 : List S44) (l0_2 : List S87) (l1_0 l1_1 l1_2 l1_3 : List S44) (l1_4 l1_5 : List S87) (l2 : List Int) (a3 : Int) : Option (List Int) :=
  if a3 = 0 then casefold_Fold.f l1_0 l1_1 l1_2 l1_3 l1_4 l1_5 l2
  else if a3 = 1 ∨ a3 = 2 then none
  else if l2.length ≤ 17592186044416 then some l2 else none
set_option maxRecDepth 100000 in
set_option maxHeartbeats 1000000 in
theorem casefold_Form.calls (A0_0 : Option Addr) (c0_0 : Nat) (l0_0 : List (S154)) (A0_1 : Option Addr) (c0_1 : Nat) (l0_1 : List (S44)) (A0_2 : Option Addr) (c0_2 : Nat) (l0_2 : List (S87)) (A1_0 : Option Addr) (c1_0 : Nat) (l1_0 : List (S44)) (A1_1 : Option Addr) (c1_1 : Nat) (l1_1 : List (S44)) (A1_2 : Option Addr) (c1_2 : Nat) (l1_2 : List (S44)) (A1_3 : Option Addr) (c1_3 : Nat) (l1_3 : List (S44)) (A1_4 : Option Addr) (c1_4 : Nat) (l1_4 : List (S87)) (A1_5 : Option Addr) (c1_5 : Nat) (l1_5 : List (S87)) (A2 : Option Addr) (c2 : Nat) (l2 : List (Int)) (a3 : Int) (r : List (Int)) (w : World) (hr0_0 : Kd.C k154 w A0_0 l0_0.length l0_0) (hc0_0 : l0_0.length ≤ c0_0) (hr0_1 : Kd.C k44 w A0_1 l0_1.length l0_1) (hc0_1 : l0_1.length ≤ c0_1) (hr0_2 : Kd.C k87 w A0_2 l0_2.length l0_2) (hc0_2 : l0_2.length ≤ c0_2) (hr1_0 : Kd.C k44 w A1_0 l1_0.length l1_0) (hc1_0 : l1_0.length ≤ c1_0) (hr1_1 : Kd.C k44 w A1_1 l1_1.length l1_1) (hc1_1 : l1_1.length ≤ c1_1) (hr1_2 : Kd.C k44 w A1_2 l1_2.length l1_2) (hc1_2 : l1_2.length ≤ c1_2) (hr1_3 : Kd.C k44 w A1_3 l1_3.length l1_3) (hc1_3 : l1_3.length ≤ c1_3) (hr1_4 : Kd.C k87 w A1_4 l1_4.length l1_4) (hc1_4 : l1_4.length ≤ c1_4) (hr1_5 : Kd.C k87 w A1_5 l1_5.length l1_5) (hc1_5 : l1_5.length ≤ c1_5) (hr2 : Kd.C (Kd.int .i64) w A2 l2.length l2) (hc2 : l2.length ≤ c2) (h : casefold_Form.f l0_0 l0_1 l0_2 l1_0 l1_1 l1_2 l1_3 l1_4 l1_5 l2 a3 = some r) :
    Calls Tryz.prog 27 #[.agg #[.slice A0_0 l0_0.length c0_0, .slice A0_1 l0_1.length c0_1, .slice A0_2 l0_2.length c0_2], .agg #[.slice A1_0 l1_0.length c1_0, .slice A1_1 l1_1.length c1_1, .slice A1_2 l1_2.length c1_2, .slice A1_3 l1_3.length c1_3, .slice A1_4 l1_4.length c1_4, .slice A1_5 l1_5.length c1_5], .slice A2 l2.length c2, .int .i64 a3] w fun e w' => ∃ v0_ : Value, e = .returned (v0_) ∧ Kd.R (Kd.int .i64) 3 w' w.heap.size (fun _ => True) v0_ r ∧ Below w.heap.size w w' := by
  unfold casefold_Form.f at h
  have hu28 := Tryz.underlying28
  have hu27 := Tryz.underlying27
  have hu41 := Tryz.underlying41
  by_cases h0 : a3 = 0
  · rw [if_pos h0] at h
    subst h0
    have hck := fun W k0 k1 k2 k3 k4 k5 k6 => casefold_Fold.calls A1_0 c1_0 l1_0 A1_1 c1_1 l1_1 A1_2 c1_2 l1_2 A1_3 c1_3 l1_3 A1_4 c1_4 l1_4 A1_5 c1_5 l1_5 A2 c2 l2 r W k0 hc1_0 k1 hc1_1 k2 hc1_2 k3 hc1_3 k4 hc1_4 k5 hc1_5 k6 hc2 h
    have Hck := Lib.hid hck
    clear hck h
    go_enter Tryz.func27, Tryz.ntmps27
    go_wp2_with fail
    refine (Hck.out _ (Kd.C_alloc (Kd.C_alloc hr1_0 _) _) (Kd.C_alloc (Kd.C_alloc hr1_1 _) _) (Kd.C_alloc (Kd.C_alloc hr1_2 _) _) (Kd.C_alloc (Kd.C_alloc hr1_3 _) _) (Kd.C_alloc (Kd.C_alloc hr1_4 _) _) (Kd.C_alloc (Kd.C_alloc hr1_5 _) _) (Kd.C_alloc (Kd.C_alloc hr2 _) _)).mono ?_
    rintro e w1 ⟨v, rfl, hR, hb1⟩
    have hB0 : Below w.heap.size w w1 := (below_alloc (below_alloc (Below.refl _ _) _) _).trans (hb1.mono (by simp; omega))
    obtain ⟨VA, Vc, rfl⟩ := Kd.R_slice hR
    go_wp2_with fail
    go_ret
    exact ⟨_, rfl, R_lower (by simp; omega) hR, hB0⟩
  · rw [if_neg h0] at h
    split at h
    · cases h
    · next h12 =>
      split at h
      · next hl =>
        obtain rfl := Option.some.inj h
        have h1 : ¬ a3 = 1 := fun e => h12 (.inl e)
        have h2 : ¬ a3 = 2 := fun e => h12 (.inr e)
        clear h h12
        go_enter Tryz.func27, Tryz.ntmps27
        go_wp2_with fail
        refine (clone36 _ _ _ _ (Kd.C_alloc (Kd.C_alloc hr2 _) _) hl).mono ?_
        rintro e w1 ⟨v, rfl, hR, hb1⟩
        have hB0 : Below w.heap.size w w1 := (below_alloc (below_alloc (Below.refl _ _) _) _).trans (hb1.mono (by simp; omega))
        obtain ⟨VA, Vc, rfl⟩ := Kd.R_slice hR
        go_wp2_with fail
        go_ret
        exact ⟨_, rfl, R_lower (by simp; omega) hR, hB0⟩
      · cases h
end Go.Proofs.YtdgboklnhmfhoaaGreatDoor.G
