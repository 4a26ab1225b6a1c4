/- Words for walks, out of those that the kit's printer lays for a claim: cut by a program to what these texts use. -/
import Derived.Test.YtokhckbjdpgkfaaWTab
namespace Go.Proofs.YtokhckbjdpgkfaaW.PrintLast
end Go.Proofs.YtokhckbjdpgkfaaW.PrintLast
