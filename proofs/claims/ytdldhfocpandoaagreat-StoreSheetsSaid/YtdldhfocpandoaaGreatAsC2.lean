import Derived.Test.YtdldhfocpandoaaGreatAsA
noncomputable section
set_option maxHeartbeats 8000000
set_option maxRecDepth 8000
namespace Go.Ck
open Go.Sx Go.Proofs Go.Proofs.Tryz
set_option maxRecDepth 1000000
theorem Aiz:(c25.zipIdx.all λp=>As 25 Tryz.f25 p.2 p.1)=true:=by kernel_rfl
theorem Al_:(c98.zipIdx.all λp=>As 98 Tryz.f98 p.2 p.1)=true:=by kernel_rfl
theorem Aho:(c105.zipIdx.all λp=>As 105 Tryz.f105 p.2 p.1)=true:=by kernel_rfl
theorem Ahw:(c113.zipIdx.all λp=>As 113 Tryz.f113 p.2 p.1)=true:=by kernel_rfl
theorem Ail:(c228.zipIdx.all λp=>As 228 Tryz.f228 p.2 p.1)=true:=by kernel_rfl
theorem Ai8:(c263.zipIdx.all λp=>As 263 Tryz.f263 p.2 p.1)=true:=by kernel_rfl
theorem Ajb:(c267.zipIdx.all λp=>As 267 Tryz.f267 p.2 p.1)=true:=by kernel_rfl
theorem Aje:(c270.zipIdx.all λp=>As 270 Tryz.f270 p.2 p.1)=true:=by kernel_rfl
theorem Ajf:(c271.zipIdx.all λp=>As 271 Tryz.f271 p.2 p.1)=true:=by kernel_rfl
theorem Aj5:(c298.zipIdx.all λp=>As 298 Tryz.f298 p.2 p.1)=true:=by kernel_rfl
theorem Ak9:(c339.zipIdx.all λp=>As 339 Tryz.f339 p.2 p.1)=true:=by kernel_rfl
theorem Alv:(c364.zipIdx.all λp=>As 364 Tryz.f364 p.2 p.1)=true:=by kernel_rfl
end Go.Ck