import Derived.Test.YtdldhfocpandoaaGreatAsA
noncomputable section
set_option maxHeartbeats 8000000
set_option maxRecDepth 8000
namespace Go.Ck
open Go.Sx Go.Proofs Go.Proofs.Tryz
set_option maxRecDepth 1000000
theorem Ahs:(c109.zipIdx.all λp=>As 109 Tryz.f109 p.2 p.1)=true:=by kernel_rfl
theorem Ahx:(c114.zipIdx.all λp=>As 114 Tryz.f114 p.2 p.1)=true:=by kernel_rfl
theorem Ah5:(c179.zipIdx.all λp=>As 179 Tryz.f179 p.2 p.1)=true:=by kernel_rfl
theorem Aim:(c229.zipIdx.all λp=>As 229 Tryz.f229 p.2 p.1)=true:=by kernel_rfl
theorem Aiv:(c238.zipIdx.all λp=>As 238 Tryz.f238 p.2 p.1)=true:=by kernel_rfl
theorem Ai3:(c258.zipIdx.all λp=>As 258 Tryz.f258 p.2 p.1)=true:=by kernel_rfl
theorem Ai6:(c261.zipIdx.all λp=>As 261 Tryz.f261 p.2 p.1)=true:=by kernel_rfl
theorem Ajd:(c269.zipIdx.all λp=>As 269 Tryz.f269 p.2 p.1)=true:=by kernel_rfl
theorem Aji:(c274.zipIdx.all λp=>As 274 Tryz.f274 p.2 p.1)=true:=by kernel_rfl
theorem Ajj:(c275.zipIdx.all λp=>As 275 Tryz.f275 p.2 p.1)=true:=by kernel_rfl
theorem Ajy:(c291.zipIdx.all λp=>As 291 Tryz.f291 p.2 p.1)=true:=by kernel_rfl
theorem Aj0:(c293.zipIdx.all λp=>As 293 Tryz.f293 p.2 p.1)=true:=by kernel_rfl
theorem Aj9:(c302.zipIdx.all λp=>As 302 Tryz.f302 p.2 p.1)=true:=by kernel_rfl
theorem Akn:(c317.zipIdx.all λp=>As 317 Tryz.f317 p.2 p.1)=true:=by kernel_rfl
theorem Ak0:(c330.zipIdx.all λp=>As 330 Tryz.f330 p.2 p.1)=true:=by kernel_rfl
theorem Ak8:(c338.zipIdx.all λp=>As 338 Tryz.f338 p.2 p.1)=true:=by kernel_rfl
theorem Ald:(c344.zipIdx.all λp=>As 344 Tryz.f344 p.2 p.1)=true:=by kernel_rfl
theorem Al3:(c374.zipIdx.all λp=>As 374 Tryz.f374 p.2 p.1)=true:=by kernel_rfl
end Go.Ck