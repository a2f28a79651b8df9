import Derived.Test.YtdldhfocpandoaaGreatAsA
noncomputable section
set_option maxHeartbeats 8000000
set_option maxRecDepth 8000
namespace Go.Ck
open Go.Sx Go.Proofs Go.Proofs.Tryz
set_option maxRecDepth 1000000
theorem Ahn:(c104.zipIdx.all λp=>As 104 Tryz.f104 p.2 p.1)=true:=by kernel_rfl
theorem Aip:(c232.zipIdx.all λp=>As 232 Tryz.f232 p.2 p.1)=true:=by kernel_rfl
theorem Ajc:(c268.zipIdx.all λp=>As 268 Tryz.f268 p.2 p.1)=true:=by kernel_rfl
theorem Akd:(c307.zipIdx.all λp=>As 307 Tryz.f307 p.2 p.1)=true:=by kernel_rfl
theorem Akk:(c314.zipIdx.all λp=>As 314 Tryz.f314 p.2 p.1)=true:=by kernel_rfl
end Go.Ck