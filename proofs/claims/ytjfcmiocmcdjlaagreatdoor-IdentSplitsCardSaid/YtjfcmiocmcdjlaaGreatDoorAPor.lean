/- The union that the program makes has the members that it should. No program in sight. -/
import Derived.Test.YtjfcmiocmcdjlaaGreatDoorAIt5
namespace Go.Proofs.YtjfcmiocmcdjlaaGreatDoor.G
open UcSets (mem canonFrom)
set_option linter.unusedVariables false
theorem hasR_make (l : List S32) (x : Int) : hasR (makeL l) x = hasR l x := by
  have key : hasR (makeL l) x = true ↔ hasR l x = true := by
    rw [hasR_iff, hasR_iff, makeL_mem]
    constructor
    · rintro ⟨h, _, _, h2⟩; exact ⟨h, h2⟩
    · rintro ⟨h, h2⟩; exact ⟨h, h.1, h.2, h2⟩
  cases h1 : hasR (makeL l) x <;> cases h2 : hasR l x <;> simp_all
/-- The greatest cut that is no greater than x. -/
theorem cut_at : ∀ {S : List Int} {x : Int}, S.Pairwise (fun a b => a ≤ b) → (∃ a ∈ S, a ≤ x) → (∃ a ∈ S, x < a) → ∃ j, j + 1 < S.length ∧ S.getD j 0 ≤ x ∧ x < S.getD (j + 1) 0 ∧ ∀ a ∈ S, a ≤ x → a ≤ S.getD j 0
  | [], _, _, ⟨a, ha, _⟩, _ => by cases ha
  | [a], x, _, ⟨b, hb, hbx⟩, ⟨c, hc, hcx⟩ => by
    obtain rfl := List.mem_singleton.1 hb
    obtain rfl := List.mem_singleton.1 hc
    omega
  | a :: b :: t, x, hp, h1, h2 => by
    have hp2 := (List.pairwise_cons.1 hp).2
    have ha := (List.pairwise_cons.1 hp).1
    by_cases hb : b ≤ x
    · have h2' : ∃ c ∈ b :: t, x < c := by
        obtain ⟨c, hc, hcx⟩ := h2
        rcases List.mem_cons.1 hc with rfl | hc
        · have := ha b (by simp); omega
        · exact ⟨c, hc, hcx⟩
      obtain ⟨j, hj, g1, g2, g3⟩ := cut_at hp2 ⟨b, by simp, hb⟩ h2'
      refine ⟨j + 1, by simpa using hj, by simpa using g1, by simpa using g2, fun c hc hcx => ?_⟩
      rcases List.mem_cons.1 hc with rfl | hc
      · have h3 := g3 b (by simp) hb
        have h4 := ha b (by simp)
        simp at h3 ⊢
        omega
      · simpa using g3 c hc hcx
    · obtain ⟨c, hc, hcx⟩ := h1
      have hax : a ≤ x := by
        rcases List.mem_cons.1 hc with rfl | hc
        · exact hcx
        · have := ha c hc; omega
      refine ⟨0, by simp, by simpa using hax, by simp; omega, fun d hd hdx => ?_⟩
      rcases List.mem_cons.1 hd with rfl | hd
      · simp
      · rcases List.mem_cons.1 hd with rfl | hd
        · omega
        · have := (List.pairwise_cons.1 hp2).1 d hd
          omega
theorem cuts_mem (l m : List S32) (x : Int) : x ∈ cutsC l m ↔ x = 0 ∨ x = 1114112 ∨ x ∈ flatC (makeL l) ∨ x ∈ flatC (makeL m) := by
  unfold cutsC
  rw [(sortI_perm _).mem_iff]
  simp [or_assoc]
theorem flatC_mem {l : List S32} {r : S32} (h : r ∈ l) : r.f0 ∈ flatC l ∧ r.f1 + 1 ∈ flatC l :=
  ⟨List.mem_flatMap.2 ⟨r, h, by simp⟩, List.mem_flatMap.2 ⟨r, h, by simp⟩⟩
theorem same_at {l : List S32} {S : List Int} (hS : ∀ x ∈ flatC (makeL l), x ∈ S) {c x : Int} (hc : 0 ≤ c) (hx : x ≤ 1114111) (hcx : c ≤ x) (hno : ∀ a ∈ S, a ≤ x → a ≤ c) : hasR l c = hasR l x := by
  rw [← hasR_make l c, ← hasR_make l x]
  have key : hasR (makeL l) c = true ↔ hasR (makeL l) x = true := by
    rw [hasR_iff, hasR_iff]
    constructor
    · rintro ⟨_, r, hr, h1, h2⟩
      obtain ⟨s, hs, rfl⟩ := List.mem_map.1 hr
      simp only [toP] at h1 h2
      refine ⟨⟨by omega, hx⟩, toP s, hr, by simp only [toP]; omega, ?_⟩
      simp only [toP]
      by_cases h : x ≤ s.f1
      · exact h
      · have := hno (s.f1 + 1) (hS _ (flatC_mem hs).2) (by omega)
        omega
    · rintro ⟨_, r, hr, h1, h2⟩
      obtain ⟨s, hs, rfl⟩ := List.mem_map.1 hr
      simp only [toP] at h1 h2
      have := hno s.f0 (hS _ (flatC_mem hs).1) h1
      exact ⟨⟨hc, by omega⟩, toP s, hr, by simpa only [toP] using this, by simp only [toP]; omega⟩
  cases h1 : hasR (makeL l) c <;> cases h2 : hasR (makeL l) x <;> simp_all
theorem pieces_mem (inn : Int → Bool) (S : List Int) (n : Nat) (r : S32) : r ∈ piecesL inn S n ↔ ∃ j, j < n ∧ S.getD j 0 ≤ S.getD (j + 1) 0 - 1 ∧ inn (S.getD j 0) = true ∧ r = ⟨S.getD j 0, S.getD (j + 1) 0 - 1⟩ := by
  unfold piecesL
  rw [List.mem_flatMap]
  constructor
  · rintro ⟨j, hj, hr⟩
    unfold pieceAt at hr
    split at hr
    · next h => exact ⟨j, List.mem_range.1 hj, h.1, h.2, List.mem_singleton.1 hr⟩
    · cases hr
  · rintro ⟨j, hj, h1, h2, rfl⟩
    refine ⟨j, List.mem_range.2 hj, ?_⟩
    unfold pieceAt
    rw [if_pos ⟨h1, h2⟩]
    exact List.mem_singleton.2 rfl
theorem hasR_or (l m : List S32) (x : Int) : hasR (orL l m) x = (hasR l x || hasR m x) := by
  have hsorted : (cutsC l m).Pairwise (fun a b => a ≤ b) := sortI_sorted _
  have hSl : ∀ a ∈ flatC (makeL l), a ∈ cutsC l m := fun a ha => (cuts_mem l m a).2 (.inr (.inr (.inl ha)))
  have hSm : ∀ a ∈ flatC (makeL m), a ∈ cutsC l m := fun a ha => (cuts_mem l m a).2 (.inr (.inr (.inr ha)))
  have h0 : (0 : Int) ∈ cutsC l m := (cuts_mem l m 0).2 (.inl rfl)
  have hM : (1114112 : Int) ∈ cutsC l m := (cuts_mem l m _).2 (.inr (.inl rfl))
  have hpos : ∀ a ∈ cutsC l m, 0 ≤ a ∧ a ≤ 1114112 := cuts_bounds
  unfold orL
  rw [hasR_make]
  have hinn : ∀ c x : Int, 0 ≤ c → x ≤ 1114111 → c ≤ x → (∀ a ∈ cutsC l m, a ≤ x → a ≤ c) → (hasR l c || hasR m c) = (hasR l x || hasR m x) := fun c x h1 h2 h3 h4 => by
    rw [same_at hSl h1 h2 h3 h4, same_at hSm h1 h2 h3 h4]
  have key : hasR (piecesL (fun x => hasR l x || hasR m x) (cutsC l m) ((cutsC l m).length - 1)) x = true ↔ (hasR l x || hasR m x) = true := by
    rw [hasR_iff]
    constructor
    · rintro ⟨hv, r, hr, h1, h2⟩
      obtain ⟨s, hs, rfl⟩ := List.mem_map.1 hr
      obtain ⟨j, hj, g1, g2, rfl⟩ := (pieces_mem _ _ _ _).1 hs
      simp only [toP] at h1 h2
      have hjl : j + 1 < (cutsC l m).length := by omega
      rw [← hinn _ x ?_ hv.2 h1 ?_]
      · exact g2
      · have : (cutsC l m).getD j 0 ∈ cutsC l m := by rw [List.getD_eq_getElem?_getD, List.getElem?_eq_getElem (by omega)]; exact List.getElem_mem _
        exact (hpos _ this).1
      · intro a ha hax
        obtain ⟨i, hi, rfl⟩ := List.getElem_of_mem ha
        rw [List.getD_eq_getElem?_getD, List.getElem?_eq_getElem (show j < _ by omega)] at h1 ⊢
        rw [List.getD_eq_getElem?_getD, List.getElem?_eq_getElem hjl] at h2
        simp only [Option.getD_some] at h1 h2 ⊢
        rcases Nat.lt_or_ge j i with h | h
        · have h3 : (cutsC l m)[j + 1] ≤ (cutsC l m)[i] := by
            rcases Nat.lt_or_ge (j + 1) i with h' | h'
            · exact List.pairwise_iff_getElem.1 hsorted _ _ hjl hi h'
            · obtain rfl : i = j + 1 := by omega
              exact Int.le_refl _
          omega
        · rcases Nat.lt_or_ge i j with h' | h'
          · exact List.pairwise_iff_getElem.1 hsorted _ _ hi (by omega) h'
          · obtain rfl : i = j := by omega
            exact Int.le_refl _
    · intro h
      have hv : 0 ≤ x ∧ x ≤ 1114111 := by
        rcases Bool.or_eq_true_iff.1 h with h | h
        · exact (hasR_iff.1 h).1
        · exact (hasR_iff.1 h).1
      obtain ⟨j, hj, g1, g2, g3⟩ := cut_at hsorted ⟨0, h0, hv.1⟩ ⟨1114112, hM, by omega⟩
      have hg0 : 0 ≤ (cutsC l m).getD j 0 := by
        have : (cutsC l m).getD j 0 ∈ cutsC l m := by rw [List.getD_eq_getElem?_getD, List.getElem?_eq_getElem (by omega)]; exact List.getElem_mem _
        exact (hpos _ this).1
      refine ⟨hv, _, List.mem_map_of_mem ((pieces_mem _ _ _ _).2 ⟨j, by omega, by omega, ?_, rfl⟩), g1, by simp only [toP]; omega⟩
      show (hasR l _ || hasR m _) = true
      rw [hinn _ x hg0 hv.2 g1 g3]
      exact h
  cases h1 : hasR (piecesL (fun x => hasR l x || hasR m x) (cutsC l m) ((cutsC l m).length - 1)) x <;> cases h2 : (hasR l x || hasR m x) <;> simp_all
theorem orL_length (l m : List S32) : (orL l m).length ≤ 2 * l.length + 2 * m.length + 1 := by
  have h1 := makeL_length (piecesL (fun x => hasR l x || hasR m x) (cutsC l m) ((cutsC l m).length - 1))
  have h2 := pieces_len (fun x => hasR l x || hasR m x) (cutsC l m) ((cutsC l m).length - 1)
  have h3 : (cutsC l m).length = 2 + 2 * (makeL l).length + 2 * (makeL m).length := by
    unfold cutsC
    rw [sortI_length, List.length_append, List.length_append, flatC_length, flatC_length]
    rfl
  have h4 := makeL_length l
  have h5 := makeL_length m
  unfold orL
  omega
end Go.Proofs.YtjfcmiocmcdjlaaGreatDoor.G
