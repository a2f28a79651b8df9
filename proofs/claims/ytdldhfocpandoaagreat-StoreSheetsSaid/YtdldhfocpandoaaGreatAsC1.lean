import Derived.Test.YtdldhfocpandoaaGreatAsA
noncomputable section
set_option maxHeartbeats 8000000
set_option maxRecDepth 8000
namespace Go.Ck
open Go.Sx Go.Proofs Go.Proofs.Tryz
set_option maxRecDepth 1000000
theorem Ahy:(c170.zipIdx.all λp=>As 170 Tryz.f170 p.2 p.1)=true:=by kernel_rfl
theorem Ah8:(c182.zipIdx.all λp=>As 182 Tryz.f182 p.2 p.1)=true:=by kernel_rfl
theorem Aja:(c266.zipIdx.all λp=>As 266 Tryz.f266 p.2 p.1)=true:=by kernel_rfl
theorem Akf:(c309.zipIdx.all λp=>As 309 Tryz.f309 p.2 p.1)=true:=by kernel_rfl
theorem Aky:(c328.zipIdx.all λp=>As 328 Tryz.f328 p.2 p.1)=true:=by kernel_rfl
theorem Ak_:(c340.zipIdx.all λp=>As 340 Tryz.f340 p.2 p.1)=true:=by kernel_rfl
theorem Ale:(c345.zipIdx.all λp=>As 345 Tryz.f345 p.2 p.1)=true:=by kernel_rfl
theorem Alj:(c350.zipIdx.all λp=>As 350 Tryz.f350 p.2 p.1)=true:=by kernel_rfl
end Go.Ck