/- Orbits as the specification collects them: candidates put into an ascending list. No program in sight. -/
import Derived.Test.YtdgboklnhmfhoaaGreatDoorCV3
import Derived.Test.YtdgboklnhmfhoaaGreatDoorCCb
namespace Go.Proofs.YtdgboklnhmfhoaaGreatDoor.G
open Go.RowKit Go.Proofs.YtdgboklnhmfhoaaGreatDoorW.PrintWords Go.Proofs.YtdgboklnhmfhoaaGreatDoorW.PrintLast Go.Proofs.YtdgboklnhmfhoaaGreatDoorW.PrintMore
set_option linter.unusedVariables false
theorem chkM_nil : chkM [] = 0 := by
  have h : chk56 [] = 0 := by simp [chk56, dupFrom]
  simp [chkM, h, sortedM]
theorem foldList_chk (l0 l1 l2 l3 : List S44) (l4 l5 : List S87) : chkM (foldList l0 l1 l2 l3 l4 l5) = 0 := by
  unfold foldList
  split
  · next h => exact (checkC_ok h).1 3 (by omega)
  · exact chkM_nil
theorem chkM_good {l : List S44} (h : chkM l = 0) : ∀ m ∈ l, badMap m = false := by
  unfold chkM at h
  split at h
  · next h2 => exact absurd h h2
  · next h2 =>
    have h3 : chk56 l = 0 := by omega
    unfold chk56 at h3
    split at h3
    · cases h3
    · next h4 =>
      intro m hm
      rw [Bool.not_eq_true, List.any_eq_false] at h4
      simpa using h4 m hm
theorem badMap_codes {m : S44} (h : badMap m = false) : badCode m.f0 = false ∧ ∀ c ∈ m.f1, badCode c = false := by
  simp only [badMap, okCodes, Bool.or_eq_false_iff, Bool.not_eq_false', Bool.not_eq_true'] at h
  obtain ⟨h1, h2⟩ := h
  rw [List.any_eq_false] at h1 h2
  exact ⟨by simpa using h1 m.f0 (by simp), fun c hc => by simpa using h2 c hc⟩
theorem fold1_good {FL : List S44} (hg : ∀ m ∈ FL, badMap m = false) {c : Int} (hc : badCode c = false) : ∀ x ∈ fold1 FL c, badCode x = false := by
  intro x hx
  unfold fold1 at hx
  split at hx
  · next m hm => exact (badMap_codes (hg m (List.mem_of_find?_eq_some hm))).2 x hx
  · obtain rfl := List.mem_singleton.1 hx
    exact hc
theorem strict_ext {l m : List Int} (h1 : l.Pairwise (fun a b => a < b)) (h2 : m.Pairwise (fun a b => a < b)) (h : ∀ x, x ∈ l ↔ x ∈ m) : l = m := by
  have n1 : l.Nodup := h1.imp (fun h e => by omega)
  have n2 : m.Nodup := h2.imp (fun h e => by omega)
  exact sorted_eq ((List.perm_ext_iff_of_nodup n1 n2).2 h) (h1.imp (fun h => by omega)) (h2.imp (fun h => by omega))
theorem orbit_nodup {FL : List S44} (hn : (FL.map (·.f0)).Nodup) (c : Int) : (orbitL FL c).Nodup := by
  refine (sortI_perm _).nodup_iff.2 ?_
  rw [List.nodup_append]
  refine ⟨?_, ?_, ?_⟩
  · unfold orbit0
    split
    · simp
    · exact List.nodup_nil
  · refine List.pairwise_flatMap.2 ⟨fun i hi => ?_, ?_⟩
    · unfold fromsAt
      split
      · split
        · simp
        · exact List.Pairwise.nil
      · exact List.Pairwise.nil
    · refine (List.nodup_range (n := FL.length)).imp ?_
      intro i j hij x hx y hy
      unfold fromsAt at hx hy
      split at hx
      · next m hm =>
        split at hx
        · obtain rfl := List.mem_singleton.1 hx
          split at hy
          · next m' hm' =>
            split at hy
            · obtain rfl := List.mem_singleton.1 hy
              intro e
              have e1 : (FL.map (·.f0))[i]? = (FL.map (·.f0))[j]? := by rw [List.getElem?_map, List.getElem?_map, hm, hm']; simp [e]
              have hi : i < (FL.map (·.f0)).length := by rw [List.length_map]; exact (List.getElem?_eq_some_iff.1 hm).1
              exact hij (List.getElem?_inj hi hn |>.1 e1)
            · cases hy
          · cases hy
        · cases hx
      · cases hx
  · intro a ha b hb e
    subst e
    unfold orbit0 at ha
    split at ha
    · next h =>
      obtain rfl := List.mem_singleton.1 ha
      obtain ⟨i, _, hi⟩ := List.mem_flatMap.1 hb
      unfold fromsAt at hi
      split at hi
      · next m hm =>
        split at hi
        · have e := List.mem_singleton.1 hi
          have := h.2
          rw [e, hasF, List.any_eq_false] at this
          have q := this m (List.mem_of_getElem? hm)
          simp at q
        · cases hi
      · cases hi
    · cases ha
theorem orbit_strict {FL : List S44} (hn : (FL.map (·.f0)).Nodup) (c : Int) : (orbitL FL c).Pairwise (fun a b => a < b) :=
  (sortI_sorted _).imp₂ (fun a b h1 h2 => by omega) (orbit_nodup hn c)
def orbStep (FL : List S44) (target : List Int) (out : List Int) (x : Int) : List Int :=
  if badCode x then out else if fold1 FL x = target then placeL out x else out
def cands (FL : List S44) (c : Int) : List Int := FL.map (·.f0) ++ fold1 FL c ++ [c]
theorem orbStep_sorted {FL : List S44} {target out : List Int} (h : out.Pairwise (fun a b => a < b)) (x : Int) : (orbStep FL target out x).Pairwise (fun a b => a < b) := by
  unfold orbStep
  split
  · exact h
  · split
    · exact placeL_sorted h x
    · exact h
theorem orbFold_sorted {FL : List S44} {target : List Int} : ∀ (l : List Int) {out : List Int}, out.Pairwise (fun a b => a < b) → (l.foldl (orbStep FL target) out).Pairwise (fun a b => a < b)
  | [], _, h => h
  | x :: t, _, h => orbFold_sorted t (orbStep_sorted h x)
theorem orbFold_mem {FL : List S44} {target : List Int} {z : Int} : ∀ (l : List Int) {out : List Int}, z ∈ l.foldl (orbStep FL target) out ↔ z ∈ out ∨ z ∈ l ∧ badCode z = false ∧ fold1 FL z = target
  | [], out => by simp
  | x :: t, out => by
    rw [List.foldl_cons, orbFold_mem t]
    have h : z ∈ orbStep FL target out x ↔ z ∈ out ∨ z = x ∧ badCode z = false ∧ fold1 FL z = target := by
      unfold orbStep
      split
      · next hb =>
        constructor
        · exact .inl
        · rintro (h | ⟨rfl, h1, _⟩)
          · exact h
          · rw [hb] at h1; cases h1
      · next hb =>
        rw [Bool.not_eq_true] at hb
        split
        · next ht =>
          rw [placeL_mem]
          constructor
          · rintro (h | rfl)
            · exact .inl h
            · exact .inr ⟨rfl, hb, ht⟩
          · rintro (h | ⟨rfl, _, _⟩)
            · exact .inl h
            · exact .inr rfl
        · next ht =>
          constructor
          · exact .inl
          · rintro (h | ⟨rfl, _, h2⟩)
            · exact h
            · exact absurd h2 ht
    rw [h, List.mem_cons]
    constructor
    · rintro ((h | ⟨h, k⟩) | ⟨h, k⟩)
      · exact .inl h
      · exact .inr ⟨.inl h, k⟩
      · exact .inr ⟨.inr h, k⟩
    · rintro (h | ⟨h | h, k⟩)
      · exact .inl (.inl h)
      · exact .inl (.inr ⟨h, k⟩)
      · exact .inr ⟨h, k⟩
theorem orbFold_length {FL : List S44} {target : List Int} : ∀ (l : List Int) (out : List Int), (l.foldl (orbStep FL target) out).length ≤ out.length + l.length
  | [], out => by simp
  | x :: t, out => by
    have h1 := orbFold_length (FL := FL) (target := target) t (orbStep FL target out x)
    have h2 : (orbStep FL target out x).length ≤ out.length + 1 := by
      unfold orbStep
      split
      · omega
      · split
        · exact placeL_length out x
        · omega
    simp only [List.foldl_cons, List.length_cons]
    omega
theorem orbit_sub {FL : List S44} {c z : Int} (h : z ∈ orbitL FL c) : z ∈ cands FL c := by
  have h := (sortI_perm _).mem_iff.1 h
  unfold cands
  rcases List.mem_append.1 h with h | h
  · unfold orbit0 at h
    split at h
    · next h1 =>
      obtain rfl := List.mem_singleton.1 h
      refine List.mem_append_left _ (List.mem_append_right _ ?_)
      match hv : fold1 FL c, h1.1 with
      | [x], _ => simp
    · cases h
  · obtain ⟨i, _, hi⟩ := List.mem_flatMap.1 h
    unfold fromsAt at hi
    split at hi
    · next m hm =>
      split at hi
      · obtain rfl := List.mem_singleton.1 hi
        exact List.mem_append_left _ (List.mem_append_left _ (List.mem_map.2 ⟨m, List.mem_of_getElem? hm, rfl⟩))
      · cases hi
    · cases hi
theorem cands_good {FL : List S44} (hg : ∀ m ∈ FL, badMap m = false) {c : Int} (hc : badCode c = false) : ∀ x ∈ cands FL c, badCode x = false := by
  intro x hx
  unfold cands at hx
  rcases List.mem_append.1 hx with hx | hx
  · rcases List.mem_append.1 hx with hx | hx
    · obtain ⟨m, hm, rfl⟩ := List.mem_map.1 hx
      exact (badMap_codes (hg m hm)).1
    · exact fold1_good hg hc x hx
  · obtain rfl := List.mem_singleton.1 hx
    exact hc
theorem orbRef_eq {FL : List S44} (hn : (FL.map (·.f0)).Nodup) (hg : ∀ m ∈ FL, badMap m = false) {c : Int} (hc : badCode c = false) :
    (cands FL c).foldl (orbStep FL (fold1 FL c)) [] = orbitL FL c := by
  refine strict_ext (orbFold_sorted _ List.Pairwise.nil) (orbit_strict hn c) (fun z => ?_)
  rw [orbFold_mem]
  constructor
  · rintro (h | ⟨_, _, h⟩)
    · cases h
    · rw [← orbit_congr h]
      exact orbit_self hn z
  · intro h
    exact .inr ⟨orbit_sub h, cands_good hg hc z (orbit_sub h), orbit_mem hn h⟩
end Go.Proofs.YtdgboklnhmfhoaaGreatDoor.G
