/- Folding twice, and folding what is put together. No program in sight. -/
import Derived.Test.YtdgboklnhmfhoaaGreatDoorAV3
namespace Go.Proofs.YtdgboklnhmfhoaaGreatDoor.G
open Go.RowKit Go.Proofs.YtdgboklnhmfhoaaGreatDoorW.PrintWords Go.Proofs.YtdgboklnhmfhoaaGreatDoorW.PrintLast Go.Proofs.YtdgboklnhmfhoaaGreatDoorW.PrintMore
set_option linter.unusedVariables false
theorem foldT_append (FL : List S44) (a b : List Int) : foldT FL (a ++ b) = foldT FL a ++ foldT FL b := List.flatMap_append
end Go.Proofs.YtdgboklnhmfhoaaGreatDoor.G
