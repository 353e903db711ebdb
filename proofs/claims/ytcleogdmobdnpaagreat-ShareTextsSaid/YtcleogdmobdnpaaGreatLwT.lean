/- MADE BY rxgen.py: the trees of the helpers of the laws of chapter 01. -/
import Derived.Test.YtcleogdmobdnpaaGreatWdT
namespace Go.Proofs.YtcleogdmobdnpaaGreat
open Go.RowKit Go.RX
end Go.Proofs.YtcleogdmobdnpaaGreat
