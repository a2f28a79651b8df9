import Derived.Test.YtdldhfocpandoaaGreatAsA
noncomputable section
set_option maxHeartbeats 8000000
set_option maxRecDepth 8000
namespace Go.Ck
open Go.Sx Go.Proofs Go.Proofs.Tryz
set_option maxRecDepth 1000000
theorem Al9:(c52.zipIdx.all λp=>As 52 Tryz.f52 p.2 p.1)=true:=by kernel_rfl
end Go.Ck