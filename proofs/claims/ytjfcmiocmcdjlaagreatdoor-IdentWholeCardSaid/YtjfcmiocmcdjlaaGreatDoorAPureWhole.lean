/- The plain law of IdentWhole. No program in sight. -/
import Derived.Test.YtjfcmiocmcdjlaaGreatDoorAP1
import Derived.Test.YtjfcmiocmcdjlaaGreatDoorAG7
namespace Go.Proofs.YtjfcmiocmcdjlaaGreatDoor.G
open Go.RowKit Go.Proofs.YtjfcmiocmcdjlaaGreatDoorW.PrintWords Go.Proofs.YtjfcmiocmcdjlaaGreatDoorW.PrintLast Go.Proofs.YtjfcmiocmcdjlaaGreatDoorW.PrintMore
set_option linter.unusedVariables false
variable {l0 l1 l2 : List S32}
theorem validS_beg {text : List Int} (h : begS l0 (text.getD 0 0) = false) : validS l0 l1 l2 text = false := by
  match text with
  | [] => rfl
  | c :: t =>
    have hc : begS l0 c = false := h
    unfold validS lngS
    rw [lngL, hc]
    simp
theorem partV_all (text : List Int) : partV l0 l1 l2 text 0 text.length = validS l0 l1 l2 text := by
  unfold partV
  rw [List.take_length, List.drop_zero]
theorem Good.one {text : List Int} {S : List S32} (h : Good l0 l1 l2 text 0 S) :
    (validS l0 l1 l2 text = true ∧ S = [⟨0, (text.length : Int)⟩] ∧ 0 < text.length) ∨ (validS l0 l1 l2 text = false ∧ ¬ (S.length = 1 ∧ (S.getD 0 z32).f0 = 0 ∧ (S.getD 0 z32).f1 = (text.length : Int)) ∧ (text.length = 0 → S = [])) := by
  cases h with
  | nil h =>
    right
    refine ⟨?_, fun h => by simp at h, fun _ => rfl⟩
    rcases Nat.eq_zero_or_pos text.length with h1 | h1
    · rw [List.length_eq_zero_iff.1 h1]; rfl
    · exact validS_beg (h 0 (Nat.le_refl _) h1)
  | @cons _ s e r L h0 h1 h2 h3 h4 h5 h6 h7 h8 =>
    obtain ⟨f0, f1⟩ := r
    simp only at h0 h1
    subst h0 h1
    by_cases hs : s = 0
    · by_cases he : e = text.length
      · subst hs he
        left
        refine ⟨by rw [← partV_all]; exact h5, ?_, h3⟩
        cases h8 with
        | nil _ => rfl
        | cons _ _ g2 g3 g4 => omega
      · right
        subst hs
        refine ⟨by rw [← partV_all]; exact h7 _ (by omega) (Nat.le_refl _), ?_, fun h => by omega⟩
        rintro ⟨_, _, g⟩
        have g' : (e : Int) = (text.length : Int) := g
        omega
    · right
      refine ⟨validS_beg (h6 0 (Nat.le_refl _) (by omega)), ?_, fun h => by omega⟩
      rintro ⟨_, g, _⟩
      have g' : (s : Int) = 0 := g
      omega
theorem whole_pure (l0 l1 l2 : List S32) (text : List Int) : unicodetextlaw39_IdentWhole.f l0 l1 l2 text = some true := by
  unfold unicodetextlaw39_IdentWhole.f
  obtain ⟨r, er, hr⟩ := few_f l0 l1 l2 text
  rw [er, Option.bind_some]
  cases r with
  | false => rw [if_neg (by simp)]; rfl
  | true =>
    have F := hr rfl
    rw [if_pos rfl, F.split, Option.bind_some, F.valid, Option.bind_some]
    have hG := splitS_good l0 l1 l2 text
    generalize splitS l0 l1 l2 text = S at hG ⊢
    rcases hG.one with ⟨hv, rfl, hp⟩ | ⟨hv, hno, hz⟩
    · rw [hv]
      have hne : ¬ text = [] := fun h => by rw [h] at hp; simp at hp
      simp [rd_T32, hne, unicodetextlaw39_alive.f]
    · rw [hv]
      match S, hno, hz with
      | [], hno, hz =>
        by_cases hp : (text.length : Int) > 0
        · simp [hp, unicodetextlaw39_alive.f]
        · simp [unicodetextlaw39_alive.f]
      | [r], hno, hz =>
        have hne : ¬ text = [] := fun h => by rw [h] at hz; cases hz rfl
        have hp : (text.length : Int) > 0 := by
          rcases Nat.eq_zero_or_pos text.length with h | h
          · cases hz h
          · omega
        have e1 : rd_T32 [r] 0 = r := rfl
        rw [e1]
        have hno' : r.f0 = 0 → ¬ r.f1 = (text.length : Int) := fun h1 h2 => hno ⟨rfl, h1, h2⟩
        by_cases h0 : r.f0 = 0
        · have h1 := hno' h0
          have h2 : (r.f1 == (text.length : Int)) = false := beq_eq_false_iff_ne.2 h1
          simp [h0, h2, hne, unicodetextlaw39_alive.f]
        · simp [h0, hne, unicodetextlaw39_alive.f]
      | r :: r' :: L, hno, hz =>
        have hp : (text.length : Int) > 0 := by
          rcases Nat.eq_zero_or_pos text.length with h | h
          · cases hz h
          · omega
        have hne : ¬ text = [] := fun h => by rw [h] at hz; cases hz rfl
        have hl : ¬ (((r :: r' :: L).length : Int) = 1) := by simp; omega
        rw [if_neg hl]
        simp [hne, unicodetextlaw39_alive.f]
end Go.Proofs.YtjfcmiocmcdjlaaGreatDoor.G
