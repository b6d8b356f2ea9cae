/- The specification's union, meet and difference of sets, by cuts: what comes out is canonical, and has the members that it should. No program in sight. -/
import Derived.Test.YtjfcmiocmcdjlaaGreatDoorAHmake
import Derived.Test.YtjfcmiocmcdjlaaGreatDoorAT3
namespace Go.Proofs.YtjfcmiocmcdjlaaGreatDoor.G
open Go.RowKit Go.Proofs.YtjfcmiocmcdjlaaGreatDoorW.PrintWords Go.Proofs.YtjfcmiocmcdjlaaGreatDoorW.PrintLast Go.Proofs.YtjfcmiocmcdjlaaGreatDoorW.PrintMore
open UcSets (mem canonFrom)
set_option linter.unusedVariables false
theorem good_iff {c : Int} : badCode c = false ↔ 0 ≤ c ∧ c ≤ 1114111 := by simp [badCode]
/-- The specification's Has. -/
def hasR (rs : List S32) (c : Int) : Bool := rs.any fun r => !badCode c && (decide (r.f0 ≤ c) && decide (c ≤ r.f1))
theorem hasR_iff {rs : List S32} {c : Int} : hasR rs c = true ↔ (0 ≤ c ∧ c ≤ 1114111) ∧ mem (rs.map toP) c := by
  unfold hasR mem
  rw [List.any_eq_true]
  constructor
  · rintro ⟨r, hr, h⟩
    simp only [Bool.and_eq_true, Bool.not_eq_true', decide_eq_true_eq] at h
    exact ⟨good_iff.1 h.1, toP r, List.mem_map.2 ⟨r, hr, rfl⟩, h.2⟩
  · rintro ⟨hc, p, hp, h⟩
    obtain ⟨r, hr, rfl⟩ := List.mem_map.1 hp
    refine ⟨r, hr, ?_⟩
    rw [good_iff.2 hc]
    simp only [Bool.not_false, Bool.true_and, Bool.and_eq_true, decide_eq_true_eq]
    exact h
end Go.Proofs.YtjfcmiocmcdjlaaGreatDoor.G
