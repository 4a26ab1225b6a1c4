/- Words for walks, out of those that the kit's printer lays for a claim: cut by a program to what these texts use. -/
import Derived.Test.YtokhckbjdpgkfaaWN
namespace Go.Proofs.YtokhckbjdpgkfaaW.PrintWords
open Go.RowKit
namespace Kd
end Kd
end Go.Proofs.YtokhckbjdpgkfaaW.PrintWords
