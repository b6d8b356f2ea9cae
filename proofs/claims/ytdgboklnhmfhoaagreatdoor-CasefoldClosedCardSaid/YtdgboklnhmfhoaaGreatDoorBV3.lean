/- Foldings and orbits in plain words. No program in sight. -/
import Derived.Test.YtdgboklnhmfhoaaGreatDoorBHfold
import Derived.Test.YtdgboklnhmfhoaaGreatDoorBV2
namespace Go.Proofs.YtdgboklnhmfhoaaGreatDoor.G
open Go.RowKit Go.Proofs.YtdgboklnhmfhoaaGreatDoorW.PrintWords Go.Proofs.YtdgboklnhmfhoaaGreatDoorW.PrintLast Go.Proofs.YtdgboklnhmfhoaaGreatDoorW.PrintMore
set_option linter.unusedVariables false
theorem foldList_sub (l0 l1 l2 l3 : List S44) (l4 l5 : List S87) : (foldList l0 l1 l2 l3 l4 l5).length ≤ l3.length ∧ ∀ m ∈ foldList l0 l1 l2 l3 l4 l5, m ∈ l3 := by
  unfold foldList
  split
  · exact ⟨Nat.le_refl _, fun m h => h⟩
  · exact ⟨Nat.zero_le _, fun m h => by cases h⟩
theorem fold1_length {l0 l1 l2 l3 : List S44} {l4 l5 : List S87} (h : smallP l3) (c : Int) : (fold1 (foldList l0 l1 l2 l3 l4 l5) c).length ≤ 65 := by
  unfold fold1
  split
  · next m hm => exact (h.2 m ((foldList_sub l0 l1 l2 l3 l4 l5).2 m (List.mem_of_find?_eq_some hm))).1
  · simp
theorem foldT_length {l0 l1 l2 l3 : List S44} {l4 l5 : List S87} (h : smallP l3) (l : List Int) : (foldT (foldList l0 l1 l2 l3 l4 l5) l).length ≤ 65 * l.length := by
  induction l with
  | nil => simp [foldT]
  | cons c t ih =>
    have h1 := fold1_length (l0 := l0) (l1 := l1) (l2 := l2) (l4 := l4) (l5 := l5) h c
    have : foldT (foldList l0 l1 l2 l3 l4 l5) (c :: t) = fold1 (foldList l0 l1 l2 l3 l4 l5) c ++ foldT (foldList l0 l1 l2 l3 l4 l5) t := by simp [foldT]
    rw [this, List.length_append, List.length_cons]
    omega
theorem fold_f {l0 l1 l2 l3 : List S44} {l4 l5 : List S87} (h : smallP l3) (h4 : l4.length ≤ 12) (h5 : l5.length ≤ 12) {l : List Int} (hl : l.length ≤ 100000) :
    casefold_Fold.f l0 l1 l2 l3 l4 l5 l = some (foldT (foldList l0 l1 l2 l3 l4 l5) l) := by
  have h1 := foldT_length (l0 := l0) (l1 := l1) (l2 := l2) (l4 := l4) (l5 := l5) h l
  rw [casefold_Fold.f, if_pos ⟨by omega, by omega, by omega⟩]
theorem closed_f {l0 l1 l2 l3 : List S44} {l4 l5 : List S87} (h4 : l4.length ≤ 12) (h5 : l5.length ≤ 12) :
    casefold_Closed.f l0 l1 l2 l3 l4 l5 = some (closedB (foldList l0 l1 l2 l3 l4 l5)) := by
  rw [casefold_Closed.f, if_pos ⟨by omega, by omega⟩]
end Go.Proofs.YtdgboklnhmfhoaaGreatDoor.G
