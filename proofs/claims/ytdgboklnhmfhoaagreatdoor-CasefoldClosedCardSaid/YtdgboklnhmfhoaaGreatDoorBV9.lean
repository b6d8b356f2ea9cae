/- Folding twice, and folding what is put together. No program in sight. -/
import Derived.Test.YtdgboklnhmfhoaaGreatDoorBV3
namespace Go.Proofs.YtdgboklnhmfhoaaGreatDoor.G
open Go.RowKit Go.Proofs.YtdgboklnhmfhoaaGreatDoorW.PrintWords Go.Proofs.YtdgboklnhmfhoaaGreatDoorW.PrintLast Go.Proofs.YtdgboklnhmfhoaaGreatDoorW.PrintMore
set_option linter.unusedVariables false
theorem foldT_still {FL : List S44} : ∀ {l : List Int}, (∀ x ∈ l, hasF FL x = false) → foldT FL l = l
  | [], _ => rfl
  | x :: t, h => by
    have e : foldT FL (x :: t) = fold1 FL x ++ foldT FL t := by simp [foldT]
    rw [e, fold1_none (h x (by simp)), foldT_still (fun y hy => h y (by simp [hy]))]
    rfl
theorem closed_fold1 {FL : List S44} (h : closedB FL = true) (c : Int) : ∀ x ∈ fold1 FL c, hasF FL x = false := by
  intro x hx
  cases hc : hasF FL c
  · rw [fold1_none hc] at hx
    obtain rfl := List.mem_singleton.1 hx
    exact hc
  · unfold fold1 at hx
    split at hx
    · next m hm =>
      unfold closedB at h
      rw [Bool.not_eq_true', List.any_eq_false] at h
      have h1 := h m (List.mem_of_find?_eq_some hm)
      rw [Bool.not_eq_true, List.any_eq_false] at h1
      simpa using h1 x hx
    · obtain rfl := List.mem_singleton.1 hx
      next hn =>
        rw [hasF, List.any_eq_true] at hc
        obtain ⟨m, hm, e⟩ := hc
        have := List.find?_eq_none.1 hn m hm
        exact absurd e this
theorem closed_twice {FL : List S44} (h : closedB FL = true) (text : List Int) : foldT FL (foldT FL text) = foldT FL text := by
  refine foldT_still (fun x hx => ?_)
  obtain ⟨c, _, hc⟩ := List.mem_flatMap.1 hx
  exact closed_fold1 h c x hc
end Go.Proofs.YtdgboklnhmfhoaaGreatDoor.G
