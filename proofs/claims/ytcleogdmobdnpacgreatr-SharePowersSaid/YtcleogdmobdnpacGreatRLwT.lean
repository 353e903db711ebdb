/- MADE BY rxgen.py: the trees of the helpers of the laws of chapter 01. -/
import Derived.Test.YtcleogdmobdnpacGreatRWdT
namespace Go.Proofs.YtcleogdmobdnpacGreatR
open Go.RowKit Go.RX
end Go.Proofs.YtcleogdmobdnpacGreatR
