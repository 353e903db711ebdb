/- MADE BY rxgen.py: the trees of the helpers of the laws of chapter 01. -/
import Derived.Test.YtcleogdmobdnpacGreatRDoorWdT
namespace Go.Proofs.YtcleogdmobdnpacGreatRDoor
open Go.RowKit Go.RX
end Go.Proofs.YtcleogdmobdnpacGreatRDoor
