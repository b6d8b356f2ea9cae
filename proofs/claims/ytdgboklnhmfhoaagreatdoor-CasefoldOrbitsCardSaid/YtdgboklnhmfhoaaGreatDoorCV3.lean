/- Foldings and orbits in plain words. No program in sight. -/
import Derived.Test.YtdgboklnhmfhoaaGreatDoorCHfold
import Derived.Test.YtdgboklnhmfhoaaGreatDoorCV2
namespace Go.Proofs.YtdgboklnhmfhoaaGreatDoor.G
open Go.RowKit Go.Proofs.YtdgboklnhmfhoaaGreatDoorW.PrintWords Go.Proofs.YtdgboklnhmfhoaaGreatDoorW.PrintLast Go.Proofs.YtdgboklnhmfhoaaGreatDoorW.PrintMore
set_option linter.unusedVariables false
theorem fold1_mem {FL : List S44} (hn : (FL.map (·.f0)).Nodup) {m : S44} (hm : m ∈ FL) : fold1 FL m.f0 = m.f1 := by
  induction FL with
  | nil => cases hm
  | cons q t ih =>
    rw [List.map_cons, List.nodup_cons] at hn
    rcases List.mem_cons.1 hm with rfl | hm
    · simp [fold1, List.find?]
    · have hq : decide (q.f0 = m.f0) = false := by
        simp
        intro e
        exact hn.1 (by rw [e]; exact List.mem_map.2 ⟨m, hm, rfl⟩)
      have : fold1 (q :: t) m.f0 = fold1 t m.f0 := by simp [fold1, List.find?, hq]
      rw [this]
      exact ih hn.2 hm
theorem hasF_mem {FL : List S44} {c : Int} (h : hasF FL c = true) : ∃ m ∈ FL, m.f0 = c := by
  rw [hasF, List.any_eq_true] at h
  obtain ⟨m, hm, e⟩ := h
  exact ⟨m, hm, of_decide_eq_true e⟩
theorem orbit_mem {FL : List S44} (hn : (FL.map (·.f0)).Nodup) {c z : Int} (h : z ∈ orbitL FL c) : fold1 FL z = fold1 FL c := by
  have h := (sortI_perm _).mem_iff.1 h
  rcases List.mem_append.1 h with h | h
  · unfold orbit0 at h
    split at h
    · next h1 =>
      obtain rfl := List.mem_singleton.1 h
      rw [fold1_none h1.2]
      match hv : fold1 FL c, h1.1 with
      | [x], _ => rfl
    · cases h
  · obtain ⟨i, _, hi⟩ := List.mem_flatMap.1 h
    unfold fromsAt at hi
    split at hi
    · next m hm =>
      split at hi
      · next e =>
        obtain rfl := List.mem_singleton.1 hi
        rw [fold1_mem hn (List.mem_of_getElem? hm), e]
      · cases hi
    · cases hi
theorem orbit_self {FL : List S44} (hn : (FL.map (·.f0)).Nodup) (c : Int) : c ∈ orbitL FL c := by
  refine (sortI_perm _).mem_iff.2 ?_
  cases h : hasF FL c
  · refine List.mem_append_left _ ?_
    rw [fold1_none h, orbit0, if_pos ⟨rfl, h⟩]
    exact List.mem_singleton.2 rfl
  · refine List.mem_append_right _ ?_
    obtain ⟨m, hm, rfl⟩ := hasF_mem h
    obtain ⟨i, hi, e⟩ := List.getElem_of_mem hm
    refine List.mem_flatMap.2 ⟨i, List.mem_range.2 hi, ?_⟩
    rw [fromsAt_some (List.getElem?_eq_getElem hi), e, fold1_mem hn hm, if_pos rfl]
    exact List.mem_singleton.2 rfl
theorem orbit_congr {FL : List S44} {c d : Int} (h : fold1 FL c = fold1 FL d) : orbitL FL c = orbitL FL d := by rw [orbitL, orbitL, h]
theorem orbit_length (FL : List S44) (c : Int) : (orbitL FL c).length ≤ FL.length + 1 := by
  rw [orbitL, sortI_length, List.length_append]
  have h1 := orbit0_le FL (fold1 FL c)
  have h2 := froms_le FL (fold1 FL c) (List.range FL.length)
  rw [List.length_range] at h2
  omega
theorem foldList_sub (l0 l1 l2 l3 : List S44) (l4 l5 : List S87) : (foldList l0 l1 l2 l3 l4 l5).length ≤ l3.length ∧ ∀ m ∈ foldList l0 l1 l2 l3 l4 l5, m ∈ l3 := by
  unfold foldList
  split
  · exact ⟨Nat.le_refl _, fun m h => h⟩
  · exact ⟨Nat.zero_le _, fun m h => by cases h⟩
theorem fold1_length {l0 l1 l2 l3 : List S44} {l4 l5 : List S87} (h : smallP l3) (c : Int) : (fold1 (foldList l0 l1 l2 l3 l4 l5) c).length ≤ 65 := by
  unfold fold1
  split
  · next m hm => exact (h.2 m ((foldList_sub l0 l1 l2 l3 l4 l5).2 m (List.mem_of_find?_eq_some hm))).1
  · simp
theorem foldT_length {l0 l1 l2 l3 : List S44} {l4 l5 : List S87} (h : smallP l3) (l : List Int) : (foldT (foldList l0 l1 l2 l3 l4 l5) l).length ≤ 65 * l.length := by
  induction l with
  | nil => simp [foldT]
  | cons c t ih =>
    have h1 := fold1_length (l0 := l0) (l1 := l1) (l2 := l2) (l4 := l4) (l5 := l5) h c
    have : foldT (foldList l0 l1 l2 l3 l4 l5) (c :: t) = fold1 (foldList l0 l1 l2 l3 l4 l5) c ++ foldT (foldList l0 l1 l2 l3 l4 l5) t := by simp [foldT]
    rw [this, List.length_append, List.length_cons]
    omega
theorem orbit_f {l0 l1 l2 l3 : List S44} {l4 l5 : List S87} (h : smallP l3) (h4 : l4.length ≤ 12) (h5 : l5.length ≤ 12) {c : Int} (hc : 0 ≤ c ∧ c ≤ 1114111) :
    casefold_Orbit.f l0 l1 l2 l3 l4 l5 c = some (orbitL (foldList l0 l1 l2 l3 l4 l5) c) := by
  have h1 := (foldList_sub l0 l1 l2 l3 l4 l5).1
  have h2 := h.1
  rw [casefold_Orbit.f, if_neg (by omega), if_pos ⟨by omega, by omega, by omega⟩]
end Go.Proofs.YtdgboklnhmfhoaaGreatDoor.G
