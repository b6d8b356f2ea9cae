/- ident.Valid: what its call answers. -/
import Derived.Test.YtjfcmiocmcdjlaaGreatDoorAIt7
namespace Go.Proofs.YtjfcmiocmcdjlaaGreatDoor.G
open Go.RowKit Go.Proofs.YtjfcmiocmcdjlaaGreatDoorW.PrintWords Go.Proofs.YtjfcmiocmcdjlaaGreatDoorW.PrintLast Go.Proofs.YtjfcmiocmcdjlaaGreatDoorW.PrintMore
set_option linter.unusedVariables false
def begS (l0 : List S32) : Int → Bool := hasR l0
def solS (l0 l1 : List S32) : Int → Bool := fun x => hasR l0 x || hasR l1 x
def insS (l0 l1 l2 : List S32) : Int → Bool := fun x => (hasR l0 x || hasR l1 x) || hasR l2 x
/-- The length of the longest identifier at a text's beginning. -/
def lngS (l0 l1 l2 : List S32) (text : List Int) : Nat := lngL (begS l0) (solS l0 l1) (insS l0 l1 l2) text
def validS (l0 l1 l2 : List S32) (text : List Int) : Bool := decide (0 < text.length) && decide (lngS l0 l1 l2 text = text.length)
theorem or_beg (l0 : List S32) : hasR (orL l0 []) = begS l0 := by funext x; rw [hasR_or]; simp [begS, hasR]
theorem or_sol (l0 l1 : List S32) : hasR (orL l0 l1) = solS l0 l1 := by funext x; rw [hasR_or]; rfl
theorem or_ins (l0 l1 l2 : List S32) : hasR (orL (orL l0 l1) l2) = insS l0 l1 l2 := by funext x; rw [hasR_or, hasR_or]; rfl
theorem int_beq (a b : Nat) : ((a : Int) == (b : Int)) = decide (a = b) := by
  by_cases h : a = b
  · subst h
    simp
  · have h2 : ¬ ((a : Int) = (b : Int)) := by omega
    rw [decide_eq_false h]
    exact beq_eq_false_iff_ne.2 h2
theorem valid11 (A : Option Addr) (c : Nat) (l0 : List S32) (A' : Option Addr) (c' : Nat) (l1 : List S32) (A'' : Option Addr) (c'' : Nat) (l2 : List S32) (T : Option Addr) (ct : Nat) (text : List Int) (w : World)
    (hr : Kd.C k32 w A l0.length l0) (hc : l0.length ≤ c) (hl : l0.length ≤ 1000000) (hr' : Kd.C k32 w A' l1.length l1) (hc' : l1.length ≤ c') (hm : l1.length ≤ 1000000)
    (hr'' : Kd.C k32 w A'' l2.length l2) (hc'' : l2.length ≤ c'') (hn : l2.length ≤ 1000000) (hT : Kd.C (Kd.int .i64) w T text.length text) (hct : text.length ≤ ct) :
    Calls Tryz.prog 11 #[.agg #[.slice A l0.length c, .slice A' l1.length c', .slice A'' l2.length c''], .slice T text.length ct] w fun e w' => e = .returned (.bool (validS l0 l1 l2 text)) ∧ Below w.heap.size w w' := by
  have hu26 := Tryz.underlying26
  have hmax := hT.2.1
  have hB1 : Below w.heap.size w (w.alloc (.cells #[.slice A l0.length c, .slice A' l1.length c', .slice A'' l2.length c''] 26)) := (Below.refl _ w).alloc (Nat.le_refl _) _
  have hof := of21 A c l0 A' c' l1 A'' c'' l2 _ (Kd.C_below hr hB1) hc hl (Kd.C_below hr' hB1) hc' hm (Kd.C_below hr'' hB1) hc'' hn
  have hT1 := Kd.C_below hT hB1
  have b1 := orL_length l0 []
  have b2 := orL_length l0 l1
  have b3 := orL_length (orL l0 l1) l2
  simp only [List.length_nil] at b1
  go_enter Tryz.func11, Tryz.ntmps11
  by_cases hl0 : text.length = 0
  · have hz : text = [] := List.length_eq_zero_iff.1 hl0
    have hz0 : ¬ ((text.length : Int) > 0) := by omega
    go_wp2_with fail
    go_ret
    refine ⟨?_, hB1⟩
    first
      | rfl
      | (rw [hz]; rfl)
  · have hz0 : (text.length : Int) > 0 := by omega
    have hgt : 0 < text.length := by omega
    go_wp2_with (first
      | (go_at_call 21; refine hof.mono ?_; rintro e W2 ⟨A1, c1, A2, c2, A3, c3, rfl, ⟨C1, le1⟩, ⟨C2, le2⟩, ⟨C3, le3⟩, hB2⟩
         have hlng := longest23 A1 c1 (orL l0 []) A2 c2 (orL l0 l1) A3 c3 (orL (orL l0 l1) l2) T ct text W2 ⟨C1, le1, by omega, C2, le2, by omega, C3, le3, by omega⟩ (Kd.C_below hT1 hB2) hct
         unfold rulesV at hlng
         rw [or_beg, or_sol, or_ins] at hlng)
      | (go_at_call 23; refine hlng.mono ?_; rintro e W3 ⟨rfl, hB3, _⟩))
    go_ret
    refine ⟨?_, hB1.trans ((hB2.mono hB1.size).trans (hB3.mono (by have := hB1.size; have := hB2.size; omega)))⟩
    simp [validS, lngS, hgt]
    exact int_beq _ _
def ident_Valid.f (l0_0 : List S32) (l0_1 : List S32) (l0_2 : List S32) (l1 : List Int) : Option Bool :=
  if l0_0.length ≤ 1000000 ∧ l0_1.length ≤ 1000000 ∧ l0_2.length ≤ 1000000 then some (validS l0_0 l0_1 l0_2 l1) else none
theorem ident_Valid.calls (A0_0 : Option Addr) (c0_0 : Nat) (l0_0 : List (S32)) (A0_1 : Option Addr) (c0_1 : Nat) (l0_1 : List (S32)) (A0_2 : Option Addr) (c0_2 : Nat) (l0_2 : List (S32)) (A1 : Option Addr) (c1 : Nat) (l1 : List (Int)) (r : Bool) (w : World) (hr0_0 : Kd.C k32 w A0_0 l0_0.length l0_0) (hc0_0 : l0_0.length ≤ c0_0) (hr0_1 : Kd.C k32 w A0_1 l0_1.length l0_1) (hc0_1 : l0_1.length ≤ c0_1) (hr0_2 : Kd.C k32 w A0_2 l0_2.length l0_2) (hc0_2 : l0_2.length ≤ c0_2) (hr1 : Kd.C (Kd.int .i64) w A1 l1.length l1) (hc1 : l1.length ≤ c1) (h : ident_Valid.f l0_0 l0_1 l0_2 l1 = some r) :
    Calls Tryz.prog 11 #[.agg #[.slice A0_0 l0_0.length c0_0, .slice A0_1 l0_1.length c0_1, .slice A0_2 l0_2.length c0_2], .slice A1 l1.length c1] w fun e w' => e = .returned (.bool r) ∧ Below w.heap.size w w' := by
  unfold ident_Valid.f at h
  split at h
  · next hl =>
    injection h with h
    subst h
    exact valid11 A0_0 c0_0 l0_0 A0_1 c0_1 l0_1 A0_2 c0_2 l0_2 A1 c1 l1 w hr0_0 hc0_0 hl.1 hr0_1 hc0_1 hl.2.1 hr0_2 hc0_2 hl.2.2 hr1 hc1
  · cases h
end Go.Proofs.YtjfcmiocmcdjlaaGreatDoor.G
