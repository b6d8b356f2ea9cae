/- Orbits as the specification collects them: candidates put into an ascending list. No program in sight. -/
import Derived.Test.YtdgboklnhmfhoaaGreatDoorBV3
import Derived.Test.YtdgboklnhmfhoaaGreatDoorBCb
namespace Go.Proofs.YtdgboklnhmfhoaaGreatDoor.G
open Go.RowKit Go.Proofs.YtdgboklnhmfhoaaGreatDoorW.PrintWords Go.Proofs.YtdgboklnhmfhoaaGreatDoorW.PrintLast Go.Proofs.YtdgboklnhmfhoaaGreatDoorW.PrintMore
set_option linter.unusedVariables false
theorem chkM_nil : chkM [] = 0 := by
  have h : chk56 [] = 0 := by simp [chk56, dupFrom]
  simp [chkM, h, sortedM]
theorem foldList_chk (l0 l1 l2 l3 : List S44) (l4 l5 : List S87) : chkM (foldList l0 l1 l2 l3 l4 l5) = 0 := by
  unfold foldList
  split
  · next h => exact (checkC_ok h).1 3 (by omega)
  · exact chkM_nil
end Go.Proofs.YtdgboklnhmfhoaaGreatDoor.G
