/- Code points in plain words. No program in sight. -/
import Derived.Test.YtjfcmiocmcdjlaaGreatDoorAHu
namespace Go.Proofs.YtjfcmiocmcdjlaaGreatDoor.G
def badCode (c : Int) : Bool := !(decide (0 ≤ c) && decide (c ≤ 1114111))
end Go.Proofs.YtjfcmiocmcdjlaaGreatDoor.G
