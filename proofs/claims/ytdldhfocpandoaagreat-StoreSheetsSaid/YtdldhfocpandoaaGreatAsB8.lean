import Derived.Test.YtdldhfocpandoaaGreatAsA
noncomputable section
set_option maxHeartbeats 8000000
set_option maxRecDepth 8000
namespace Go.Ck
open Go.Sx Go.Proofs Go.Proofs.Tryz
set_option maxRecDepth 1000000
theorem Ai5:(c260.zipIdx.all λp=>As 260 Tryz.f260 p.2 p.1)=true:=by kernel_rfl
theorem Akh:(c311.zipIdx.all λp=>As 311 Tryz.f311 p.2 p.1)=true:=by kernel_rfl
theorem Ak3:(c333.zipIdx.all λp=>As 333 Tryz.f333 p.2 p.1)=true:=by kernel_rfl
end Go.Ck