/- Words for walks, out of those that the kit's printer lays for a claim: cut by a program to what these texts use. -/
import Derived.Test.YtokhckbjdpgkfaaWInv
import Derived.Test.YtokhckbjdpgkfaaWFootNe
namespace Go.Proofs.YtokhckbjdpgkfaaW.PrintWords
open Go.RowKit
end Go.Proofs.YtokhckbjdpgkfaaW.PrintWords
namespace Go.Proofs.YtokhckbjdpgkfaaW.PrintLast
end Go.Proofs.YtokhckbjdpgkfaaW.PrintLast
