import Derived.Test.YtdldhfocpandoaaGreatAsA
noncomputable section
set_option maxHeartbeats 8000000
set_option maxRecDepth 8000
namespace Go.Ck
open Go.Sx Go.Proofs Go.Proofs.Tryz
set_option maxRecDepth 1000000
theorem Al5:(c48.zipIdx.all λp=>As 48 Tryz.f48 p.2 p.1)=true:=by kernel_rfl
theorem Al7:(c50.zipIdx.all λp=>As 50 Tryz.f50 p.2 p.1)=true:=by kernel_rfl
theorem Al8:(c51.zipIdx.all λp=>As 51 Tryz.f51 p.2 p.1)=true:=by kernel_rfl
theorem Ama:(c99.zipIdx.all λp=>As 99 Tryz.f99 p.2 p.1)=true:=by kernel_rfl
theorem Ahj:(c100.zipIdx.all λp=>As 100 Tryz.f100 p.2 p.1)=true:=by kernel_rfl
theorem Ahk:(c101.zipIdx.all λp=>As 101 Tryz.f101 p.2 p.1)=true:=by kernel_rfl
theorem Ahp:(c106.zipIdx.all λp=>As 106 Tryz.f106 p.2 p.1)=true:=by kernel_rfl
theorem Ahq:(c107.zipIdx.all λp=>As 107 Tryz.f107 p.2 p.1)=true:=by kernel_rfl
theorem Ahr:(c108.zipIdx.all λp=>As 108 Tryz.f108 p.2 p.1)=true:=by kernel_rfl
theorem Aht:(c110.zipIdx.all λp=>As 110 Tryz.f110 p.2 p.1)=true:=by kernel_rfl
theorem Ahu:(c111.zipIdx.all λp=>As 111 Tryz.f111 p.2 p.1)=true:=by kernel_rfl
theorem Ahv:(c112.zipIdx.all λp=>As 112 Tryz.f112 p.2 p.1)=true:=by kernel_rfl
theorem Ah0:(c174.zipIdx.all λp=>As 174 Tryz.f174 p.2 p.1)=true:=by kernel_rfl
theorem Ah1:(c175.zipIdx.all λp=>As 175 Tryz.f175 p.2 p.1)=true:=by kernel_rfl
theorem Ah2:(c176.zipIdx.all λp=>As 176 Tryz.f176 p.2 p.1)=true:=by kernel_rfl
theorem Ah3:(c177.zipIdx.all λp=>As 177 Tryz.f177 p.2 p.1)=true:=by kernel_rfl
theorem Ah4:(c178.zipIdx.all λp=>As 178 Tryz.f178 p.2 p.1)=true:=by kernel_rfl
theorem Ah6:(c180.zipIdx.all λp=>As 180 Tryz.f180 p.2 p.1)=true:=by kernel_rfl
theorem Ah9:(c183.zipIdx.all λp=>As 183 Tryz.f183 p.2 p.1)=true:=by kernel_rfl
theorem Aia:(c185.zipIdx.all λp=>As 185 Tryz.f185 p.2 p.1)=true:=by kernel_rfl
theorem Aib:(c186.zipIdx.all λp=>As 186 Tryz.f186 p.2 p.1)=true:=by kernel_rfl
theorem Aid:(c188.zipIdx.all λp=>As 188 Tryz.f188 p.2 p.1)=true:=by kernel_rfl
theorem Aie:(c221.zipIdx.all λp=>As 221 Tryz.f221 p.2 p.1)=true:=by kernel_rfl
theorem Aif:(c222.zipIdx.all λp=>As 222 Tryz.f222 p.2 p.1)=true:=by kernel_rfl
theorem Aig:(c223.zipIdx.all λp=>As 223 Tryz.f223 p.2 p.1)=true:=by kernel_rfl
theorem Aih:(c224.zipIdx.all λp=>As 224 Tryz.f224 p.2 p.1)=true:=by kernel_rfl
theorem Aii:(c225.zipIdx.all λp=>As 225 Tryz.f225 p.2 p.1)=true:=by kernel_rfl
theorem Aik:(c227.zipIdx.all λp=>As 227 Tryz.f227 p.2 p.1)=true:=by kernel_rfl
theorem Ain:(c230.zipIdx.all λp=>As 230 Tryz.f230 p.2 p.1)=true:=by kernel_rfl
theorem Aiq:(c233.zipIdx.all λp=>As 233 Tryz.f233 p.2 p.1)=true:=by kernel_rfl
theorem Air:(c234.zipIdx.all λp=>As 234 Tryz.f234 p.2 p.1)=true:=by kernel_rfl
theorem Aiw:(c239.zipIdx.all λp=>As 239 Tryz.f239 p.2 p.1)=true:=by kernel_rfl
theorem Aiy:(c240.zipIdx.all λp=>As 240 Tryz.f240 p.2 p.1)=true:=by kernel_rfl
theorem Ai0:(c255.zipIdx.all λp=>As 255 Tryz.f255 p.2 p.1)=true:=by kernel_rfl
theorem Ai1:(c256.zipIdx.all λp=>As 256 Tryz.f256 p.2 p.1)=true:=by kernel_rfl
theorem Ai2:(c257.zipIdx.all λp=>As 257 Tryz.f257 p.2 p.1)=true:=by kernel_rfl
theorem Ai4:(c259.zipIdx.all λp=>As 259 Tryz.f259 p.2 p.1)=true:=by kernel_rfl
theorem Ajk:(c276.zipIdx.all λp=>As 276 Tryz.f276 p.2 p.1)=true:=by kernel_rfl
theorem Ajl:(c277.zipIdx.all λp=>As 277 Tryz.f277 p.2 p.1)=true:=by kernel_rfl
theorem Ajn:(c279.zipIdx.all λp=>As 279 Tryz.f279 p.2 p.1)=true:=by kernel_rfl
theorem Ajo:(c280.zipIdx.all λp=>As 280 Tryz.f280 p.2 p.1)=true:=by kernel_rfl
theorem Ajp:(c281.zipIdx.all λp=>As 281 Tryz.f281 p.2 p.1)=true:=by kernel_rfl
theorem Ajr:(c283.zipIdx.all λp=>As 283 Tryz.f283 p.2 p.1)=true:=by kernel_rfl
theorem Ajs:(c284.zipIdx.all λp=>As 284 Tryz.f284 p.2 p.1)=true:=by kernel_rfl
theorem Ajt:(c285.zipIdx.all λp=>As 285 Tryz.f285 p.2 p.1)=true:=by kernel_rfl
theorem Ajv:(c288.zipIdx.all λp=>As 288 Tryz.f288 p.2 p.1)=true:=by kernel_rfl
theorem Ajw:(c289.zipIdx.all λp=>As 289 Tryz.f289 p.2 p.1)=true:=by kernel_rfl
theorem Ajx:(c290.zipIdx.all λp=>As 290 Tryz.f290 p.2 p.1)=true:=by kernel_rfl
theorem Aj1:(c294.zipIdx.all λp=>As 294 Tryz.f294 p.2 p.1)=true:=by kernel_rfl
theorem Aj3:(c296.zipIdx.all λp=>As 296 Tryz.f296 p.2 p.1)=true:=by kernel_rfl
theorem Aj4:(c297.zipIdx.all λp=>As 297 Tryz.f297 p.2 p.1)=true:=by kernel_rfl
theorem Aj6:(c299.zipIdx.all λp=>As 299 Tryz.f299 p.2 p.1)=true:=by kernel_rfl
theorem Aj7:(c300.zipIdx.all λp=>As 300 Tryz.f300 p.2 p.1)=true:=by kernel_rfl
theorem Aj8:(c301.zipIdx.all λp=>As 301 Tryz.f301 p.2 p.1)=true:=by kernel_rfl
theorem Aka:(c304.zipIdx.all λp=>As 304 Tryz.f304 p.2 p.1)=true:=by kernel_rfl
theorem Akb:((c305.zipIdx.drop 1).all λp=>As 305 Tryz.f305 p.2 p.1)=true:=by kernel_rfl
theorem Akc:(c306.zipIdx.all λp=>As 306 Tryz.f306 p.2 p.1)=true:=by kernel_rfl
theorem Ake:(c308.zipIdx.all λp=>As 308 Tryz.f308 p.2 p.1)=true:=by kernel_rfl
theorem Akg:(c310.zipIdx.all λp=>As 310 Tryz.f310 p.2 p.1)=true:=by kernel_rfl
theorem Aki:(c312.zipIdx.all λp=>As 312 Tryz.f312 p.2 p.1)=true:=by kernel_rfl
theorem Akj:(c313.zipIdx.all λp=>As 313 Tryz.f313 p.2 p.1)=true:=by kernel_rfl
theorem Akl:(c315.zipIdx.all λp=>As 315 Tryz.f315 p.2 p.1)=true:=by kernel_rfl
theorem Akm:(c316.zipIdx.all λp=>As 316 Tryz.f316 p.2 p.1)=true:=by kernel_rfl
theorem Akp:(c319.zipIdx.all λp=>As 319 Tryz.f319 p.2 p.1)=true:=by kernel_rfl
theorem Akq:(c320.zipIdx.all λp=>As 320 Tryz.f320 p.2 p.1)=true:=by kernel_rfl
theorem Akr:(c321.zipIdx.all λp=>As 321 Tryz.f321 p.2 p.1)=true:=by kernel_rfl
theorem Aks:(c322.zipIdx.all λp=>As 322 Tryz.f322 p.2 p.1)=true:=by kernel_rfl
theorem Akv:(c325.zipIdx.all λp=>As 325 Tryz.f325 p.2 p.1)=true:=by kernel_rfl
theorem Akx:(c327.zipIdx.all λp=>As 327 Tryz.f327 p.2 p.1)=true:=by kernel_rfl
theorem Akz:(c329.zipIdx.all λp=>As 329 Tryz.f329 p.2 p.1)=true:=by kernel_rfl
theorem Ak2:(c332.zipIdx.all λp=>As 332 Tryz.f332 p.2 p.1)=true:=by kernel_rfl
theorem Ak5:(c335.zipIdx.all λp=>As 335 Tryz.f335 p.2 p.1)=true:=by kernel_rfl
theorem Ak6:(c336.zipIdx.all λp=>As 336 Tryz.f336 p.2 p.1)=true:=by kernel_rfl
theorem Alg:(c347.zipIdx.all λp=>As 347 Tryz.f347 p.2 p.1)=true:=by kernel_rfl
theorem Alh:(c348.zipIdx.all λp=>As 348 Tryz.f348 p.2 p.1)=true:=by kernel_rfl
theorem Ali:(c349.zipIdx.all λp=>As 349 Tryz.f349 p.2 p.1)=true:=by kernel_rfl
theorem Alk:(c351.zipIdx.all λp=>As 351 Tryz.f351 p.2 p.1)=true:=by kernel_rfl
theorem Alp:(c357.zipIdx.all λp=>As 357 Tryz.f357 p.2 p.1)=true:=by kernel_rfl
theorem Alq:(c358.zipIdx.all λp=>As 358 Tryz.f358 p.2 p.1)=true:=by kernel_rfl
theorem Alr:(c359.zipIdx.all λp=>As 359 Tryz.f359 p.2 p.1)=true:=by kernel_rfl
theorem Als:(c360.zipIdx.all λp=>As 360 Tryz.f360 p.2 p.1)=true:=by kernel_rfl
theorem Alt:(c362.zipIdx.all λp=>As 362 Tryz.f362 p.2 p.1)=true:=by kernel_rfl
theorem Alw:(c365.zipIdx.all λp=>As 365 Tryz.f365 p.2 p.1)=true:=by kernel_rfl
theorem Alx:(c367.zipIdx.all λp=>As 367 Tryz.f367 p.2 p.1)=true:=by kernel_rfl
theorem Aly:(c368.zipIdx.all λp=>As 368 Tryz.f368 p.2 p.1)=true:=by kernel_rfl
theorem Alz:(c369.zipIdx.all λp=>As 369 Tryz.f369 p.2 p.1)=true:=by kernel_rfl
theorem Al1:(c372.zipIdx.all λp=>As 372 Tryz.f372 p.2 p.1)=true:=by kernel_rfl
end Go.Ck