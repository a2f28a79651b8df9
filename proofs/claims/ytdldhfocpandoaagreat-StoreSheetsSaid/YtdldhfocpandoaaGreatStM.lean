import Derived.Test.YtdldhfocpandoaaGreatStI
set_option maxHeartbeats 8000000
set_option maxRecDepth 8000
namespace Go.Sx
open Go.Proofs Go.Proofs.Tryz
end Go.Sx