/- MADE BY rxgen.py: the trees of the helpers of the laws of chapter 01. -/
import Derived.Test.YtcleogdmobdnpabGreatWdT
namespace Go.Proofs.YtcleogdmobdnpabGreat
open Go.RowKit Go.RX
end Go.Proofs.YtcleogdmobdnpabGreat
