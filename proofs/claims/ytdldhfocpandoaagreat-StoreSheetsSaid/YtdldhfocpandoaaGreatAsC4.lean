import Derived.Test.YtdldhfocpandoaaGreatAsA
noncomputable section
set_option maxHeartbeats 8000000
set_option maxRecDepth 8000
namespace Go.Ck
open Go.Sx Go.Proofs Go.Proofs.Tryz
set_option maxRecDepth 1000000
theorem Al4:(c46.zipIdx.all λp=>As 46 Tryz.f46 p.2 p.1)=true:=by kernel_rfl
theorem Al6:(c49.zipIdx.all λp=>As 49 Tryz.f49 p.2 p.1)=true:=by kernel_rfl
theorem Ahl:(c102.zipIdx.all λp=>As 102 Tryz.f102 p.2 p.1)=true:=by kernel_rfl
theorem Ahz:(c172.zipIdx.all λp=>As 172 Tryz.f172 p.2 p.1)=true:=by kernel_rfl
theorem Ah7:(c181.zipIdx.all λp=>As 181 Tryz.f181 p.2 p.1)=true:=by kernel_rfl
theorem Ah_:(c184.zipIdx.all λp=>As 184 Tryz.f184 p.2 p.1)=true:=by kernel_rfl
theorem Aic:(c187.zipIdx.all λp=>As 187 Tryz.f187 p.2 p.1)=true:=by kernel_rfl
theorem Aij:(c226.zipIdx.all λp=>As 226 Tryz.f226 p.2 p.1)=true:=by kernel_rfl
theorem Aio:(c231.zipIdx.all λp=>As 231 Tryz.f231 p.2 p.1)=true:=by kernel_rfl
theorem Ais:(c235.zipIdx.all λp=>As 235 Tryz.f235 p.2 p.1)=true:=by kernel_rfl
theorem Ait:(c236.zipIdx.all λp=>As 236 Tryz.f236 p.2 p.1)=true:=by kernel_rfl
theorem Aiu:(c237.zipIdx.all λp=>As 237 Tryz.f237 p.2 p.1)=true:=by kernel_rfl
theorem Ai7:(c262.zipIdx.all λp=>As 262 Tryz.f262 p.2 p.1)=true:=by kernel_rfl
theorem Ai9:(c264.zipIdx.all λp=>As 264 Tryz.f264 p.2 p.1)=true:=by kernel_rfl
theorem Ai_:(c265.zipIdx.all λp=>As 265 Tryz.f265 p.2 p.1)=true:=by kernel_rfl
theorem Ajg:(c272.zipIdx.all λp=>As 272 Tryz.f272 p.2 p.1)=true:=by kernel_rfl
theorem Ajh:(c273.zipIdx.all λp=>As 273 Tryz.f273 p.2 p.1)=true:=by kernel_rfl
theorem Ajm:(c278.zipIdx.all λp=>As 278 Tryz.f278 p.2 p.1)=true:=by kernel_rfl
theorem Aju:(c287.zipIdx.all λp=>As 287 Tryz.f287 p.2 p.1)=true:=by kernel_rfl
theorem Ajz:(c292.zipIdx.all λp=>As 292 Tryz.f292 p.2 p.1)=true:=by kernel_rfl
theorem Aj2:(c295.zipIdx.all λp=>As 295 Tryz.f295 p.2 p.1)=true:=by kernel_rfl
theorem Aj_:(c303.zipIdx.all λp=>As 303 Tryz.f303 p.2 p.1)=true:=by kernel_rfl
theorem Ako:(c318.zipIdx.all λp=>As 318 Tryz.f318 p.2 p.1)=true:=by kernel_rfl
theorem Aku:(c324.zipIdx.all λp=>As 324 Tryz.f324 p.2 p.1)=true:=by kernel_rfl
theorem Ak4:(c334.zipIdx.all λp=>As 334 Tryz.f334 p.2 p.1)=true:=by kernel_rfl
theorem Ala:(c341.zipIdx.all λp=>As 341 Tryz.f341 p.2 p.1)=true:=by kernel_rfl
theorem Alc:(c343.zipIdx.all λp=>As 343 Tryz.f343 p.2 p.1)=true:=by kernel_rfl
theorem Alf:(c346.zipIdx.all λp=>As 346 Tryz.f346 p.2 p.1)=true:=by kernel_rfl
theorem Alm:(c352.zipIdx.all λp=>As 352 Tryz.f352 p.2 p.1)=true:=by kernel_rfl
theorem Aln:(c355.zipIdx.all λp=>As 355 Tryz.f355 p.2 p.1)=true:=by kernel_rfl
theorem Alo:(c356.zipIdx.all λp=>As 356 Tryz.f356 p.2 p.1)=true:=by kernel_rfl
theorem Alu:(c363.zipIdx.all λp=>As 363 Tryz.f363 p.2 p.1)=true:=by kernel_rfl
theorem Al0:(c370.zipIdx.all λp=>As 370 Tryz.f370 p.2 p.1)=true:=by kernel_rfl
theorem Al2:(c373.zipIdx.all λp=>As 373 Tryz.f373 p.2 p.1)=true:=by kernel_rfl
end Go.Ck