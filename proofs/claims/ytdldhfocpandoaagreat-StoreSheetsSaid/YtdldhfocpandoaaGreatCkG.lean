import Derived.Test.YtdldhfocpandoaaGreatProg
import Derived.Test.YtdldhfocpandoaaGreatCkF
noncomputable section
set_option maxHeartbeats 8000000
set_option maxRecDepth 8000
namespace Go.Ck
open Go.Sx Go.Proofs Go.Proofs.Tryz
variable{t:Nat}{P:Program}
theorem Jf{i:TypeInfo}{w:World}(h:(typeInfo t).run P w= .ok i w):P.info? t=some i:=by
 unfold typeInfo at h;rw[Sem.run_bind]at h;rw[run_program,Result.andThen_ok]at h;cases hq:P.info? t with
 |none=>rw[hq]at h;exact absurd h (by simp[stuck])
 |some j=>rw[hq]at h;simpa using h
theorem Cv{b:Nat}{inf:TypeInfo}{z:Value}{d:TD}(y:AC P t false 1)(hi:(typeInfo t).run P default= .ok inf default)(hz:∀w,(zeroValue t).run P w= .ok z w)(hd:OH P t d)
 (h1:inf.zero=some z) (h2:inf.size=1) (h3:inf.bytes=b) (h4:z.cells=#[z]):KO P t ⟨false,1,b,[z],d,[]⟩:=
 ⟨y,⟨inf,z,Jf hi,h1,h4,h2,h3⟩,⟨z,hz,h4,λh=>by cases h⟩,rfl,hd,λq h=>by cases h⟩
theorem CI{b n:Nat}{inf:TypeInfo}{zs:List Value}{d:TD}(y:AC P t true n)(hi:(typeInfo t).run P default= .ok inf default)(hz:∀w,(zeroValue t).run P w= .ok (.agg zs.toArray) w)(hd:OH P t d)
 (h1:inf.zero=some (.agg zs.toArray)) (h2:inf.size=n) (h3:inf.bytes=b) (h4:zs.length=n):KO P t ⟨true,n,b,zs,d,[]⟩:=
 ⟨y,⟨inf,_,Jf hi,h1,rfl,h2,h3⟩,⟨_,hz,rfl,λ_=>rfl⟩,h4,hd,λq h=>by cases h⟩
def FsOK(P:Program):List Field->List (Nat×Nat)->Prop
 |[],[]=>True
 |f::fs,p::l=>f.offset=p.1/\(∀w,(sizeOf f.type).run P w= .ok p.2 w)/\(p.2==0)=false/\FsOK P fs l
 |_,_=>False
theorem FsOK.run{P:Program}{w:World}:∀{fs:List Field}{l:List (Nat×Nat)},FsOK P fs l->(fs.mapM λ(f:Field)=>(do pure (f.offset,<-sizeOf f.type):Sem (Nat×Nat))).run P w= .ok l w
 |[],[],_=>rfl
 |f::fs,p::l,h=>by
  have h1:=FsOK.run (w:=w) h.2.2.2;have h2:=h.2.1;simp only[List.mapM_cons,Sem.run_bind,h2,Result.andThen_ok,h.1];simp at h1;simp[h1]
theorem FsOK.at{P:Program}{t:Nat}{F:Array Field}(hu:P.underlying t=some (.struct F)):∀{fs:List Field}{l:List (Nat×Nat)}{k:Nat},FsOK P fs l->(∀j,F[k+j]? =fs[j]?)->∀j p,l[j]? =some p->Ax P t (k+j) p.1
 |[],[],k,_,_,j,p,h=>by simp at h
 |f::fs,q::l,k,h,hF,j,p,hp=>by
  cases j with
  |zero=>
   simp only[KC,Option.some.injEq]at hp;subst hp;exact fA hu (by simpa using hF 0) h.2.1 h.1 h.2.2.1
  |succ j=>
   have:=FsOK.at hu (k:=k+1) h.2.2.2 (λi=>by have:=hF (i+1);simpa[Fe,R_ 1]using this) j p (by simpa using hp);rwa[show k+(j+1)=k+1+j from by omega]
theorem CH{F:Array Field}{l:List (Nat×Nat)}(hu:P.underlying t=some (.struct F))(h:FsOK P F.toList l):OH P t (.struct l):=by
 refine⟨F,hu,λw=>?_,λj p hp=>?_⟩
 ·have:=h.run (w:=w);rw[Array.mapM_eq_mapM_toList];simp at this;simp[this]
 ·have:=FsOK.at hu (k:=0) h (λj=>by simp) j p hp;rwa[BO]at this
theorem Bb{α:Type}{p:α->Prop}{x:α}{l:List α}(h:p x)(g:∀y∈l,p y):∀y∈x::l,p y:=λ_ hy=>(Ao.1 hy).elim (λe=>e▸h) (g _)
def sl(e:Nat):TI:=⟨false,1,24,[.slice none 0 0],.slice e,[]⟩
def vi:Value:=.int .i64 0
def vs:Value:=.string ⟨#[]⟩
def vn:Value:=.slice none 0 0
theorem Au8:KO prog 72 ⟨true,51,728,[vi,vs,vs,vn,vn,.bool false,vi,vs,vs,vi,vi,vs,vi,vi,vs,vi,vi,vi,vs,vs,vn,vn,vi,vs,vs,vi,vi,vs,vi,vi,vs,vi,vi,vi,vs,vs,vn,vn,vi,vi,vi,vs,vs,vn,vn,vn,vn,vn,vn,vi,vi],.struct [(0,1),(1,1),(2,1),(3,1),(4,1),(5,1),(6,16),(22,16),(38,5),(43,1),(44,1),(45,1),(46,1),(47,1),(48,1),(49,1),(50,1)],[(6,66,6)]⟩:=by
 have h:=CI (d:=.struct [(0,1),(1,1),(2,1),(3,1),(4,1),(5,1),(6,16),(22,16),(38,5),(43,1),(44,1),(45,1),(46,1),(47,1),(48,1),(49,1),(50,1)]) Jo (Tryz.typeInfo72 default) zeroValue72 (CH underlying72 ⟨rfl,sizeOf3,rfl,rfl,sizeOf9,rfl,rfl,sizeOf9,rfl,rfl,sizeOf57,rfl,rfl,sizeOf57,rfl,rfl,sizeOf4,rfl,rfl,sizeOf66,rfl,rfl,sizeOf66,rfl,rfl,sizeOf63,rfl,rfl,sizeOf67,rfl,rfl,sizeOf68,rfl,rfl,sizeOf69,rfl,rfl,sizeOf70,rfl,rfl,sizeOf56,rfl,rfl,sizeOf56,rfl,rfl,sizeOf3,rfl,rfl,sizeOf3,rfl,trivial⟩) rfl rfl rfl rfl;exact⟨h.ty,h.info,h.zv,h.len,h.d,by simp[underlying72]⟩
def tiL:List (Nat×TI):=[(3,⟨false,1,8,[vi],.int .i64,[]⟩),
 (4,⟨false,1,1,[.bool false],.bool,[]⟩),
 (5,⟨false,1,1,[.int .u8 0],.int .u8,[]⟩),
 (9,⟨false,1,16,[vs],.str,[]⟩),
 (22,sl 5),
 (26,sl 48),
 (27,sl 74),
 (28,sl 140),
 (29,sl 144),
 (30,sl 76),
 (31,sl 151),
 (32,sl 84),
 (33,sl 157),
 (34,sl 162),
 (36,⟨true,10,232,[vs,vn,vn,vn,vn,vn,vn,vn,vn,vn],.struct [(0,1),(1,1),(2,1),(3,1),(4,1),(5,1),(6,1),(7,1),(8,1),(9,1)],[]⟩),
 (37,⟨false,1,8,[vi],.int .i64,[]⟩),
 (44,sl 9),
 (46,⟨false,1,8,[.pointer none],.ptr,[]⟩),
 (48,⟨true,4,40,[vs,.pointer none,vi,vi],.struct [(0,1),(1,1),(2,1),(3,1)],[]⟩),
 (56,sl 72),
 (57,sl 282),
 (59,⟨true,2,24,[vi,vs],.struct [(0,1),(1,1)],[]⟩),
 (61,⟨true,2,24,[vi,vs],.struct [(0,1),(1,1)],[]⟩),
 (63,⟨true,5,56,[vi,vi,vi,vs,vs],.struct [(0,1),(1,1),(2,2),(4,1)],[]⟩),
 (64,sl 66),
 (66,⟨true,16,208,[vi,vs,vs,vi,vi,vs,vi,vi,vs,vi,vi,vi,vs,vs,vn,vn],.struct [(0,1),(1,1),(2,1),(3,1),(4,2),(6,1),(7,2),(9,5),(14,1),(15,1)],[]⟩),
 (67,sl 286),
 (68,sl 216),
 (69,sl 290),
 (70,sl 294),
 (72,⟨true,51,728,[vi,vs,vs,vn,vn,.bool false,vi,vs,vs,vi,vi,vs,vi,vi,vs,vi,vi,vi,vs,vs,vn,vn,vi,vs,vs,vi,vi,vs,vi,vi,vs,vi,vi,vi,vs,vs,vn,vn,vi,vi,vi,vs,vs,vn,vn,vn,vn,vn,vn,vi,vi],.struct [(0,1),(1,1),(2,1),(3,1),(4,1),(5,1),(6,16),(22,16),(38,5),(43,1),(44,1),(45,1),(46,1),(47,1),(48,1),(49,1),(50,1)],[(6,66,6)]⟩),
 (74,⟨true,12,184,[vn,vs,vn,.bool false,vs,vn,vn,vs,vi,vi,vi,vi],.struct [(0,1),(1,1),(2,1),(3,1),(4,1),(5,1),(6,1),(7,1),(8,1),(9,1),(10,1),(11,1)],[]⟩),
 (76,⟨true,18,248,[vs,vn,vi,vs,vs,vi,vi,vs,vi,vi,vs,vi,vi,vi,vs,vs,vn,vn],.struct [(0,1),(1,1),(2,16)],[]⟩),
 (78,sl 109),
 (84,⟨true,6,64,[vs,vs,.bool false,.bool false,vs,vi],.struct [(0,1),(1,1),(2,1),(3,1),(4,1),(5,1)],[]⟩),
 (107,sl 111),
 (109,⟨true,6,80,[vi,vs,vs,vn,vi,vi],.struct [(0,1),(1,1),(2,1),(3,1),(4,1),(5,1)],[]⟩),
 (111,⟨true,2,32,[vs,vs],.struct [(0,1),(1,1)],[]⟩),
 (112,sl 188),
 (114,⟨true,1,24,[vn],.struct [(0,1)],[]⟩),
 (117,sl 122),
 (122,⟨true,7,104,[.bool false,vs,vn,vs,vi,vi,vn],.struct [(0,1),(1,1),(2,1),(3,1),(4,1),(5,1),(6,1)],[]⟩),
 (123,⟨false,1,8,[.pointer none],.ptr,[]⟩),
 (125,⟨true,3,24,[vi,vi,vi],.struct [(0,1),(1,1),(2,1)],[]⟩),
 (130,⟨false,1,8,[.int .u64 0],.int .u64,[]⟩),
 (140,⟨true,27,344,[vs,vn,vi,vi,vi,vs,vs,vi,vs,vs,vi,vi,vs,vi,vi,vs,vi,vi,vi,vs,vs,vn,vn,vs,vi,vi,vi],.struct [(0,1),(1,1),(2,5),(7,16),(23,1),(24,1),(25,1),(26,1)],[]⟩),
 (144,⟨true,29,360,[vs,.bool false,vi,vi,vi,vs,vs,.bool false,vi,vs,vs,vi,vi,vs,vi,vi,vs,vi,vi,vi,vs,vs,vn,vn,vn,vs,vi,vi,vi],.struct [(0,1),(1,1),(2,5),(7,1),(8,16),(24,1),(25,1),(26,1),(27,1),(28,1)],[]⟩),
 (149,sl 182),
 (151,⟨true,18,248,[vs,vi,vs,vs,vi,vi,vs,vi,vi,vs,vi,vi,vi,vs,vs,vn,vn,vn],.struct [(0,1),(1,16),(17,1)],[]⟩),
 (157,⟨true,5,64,[vs,vs,.bool false,.bool false,vn],.struct [(0,1),(1,1),(2,1),(3,1),(4,1)],[]⟩),
 (160,sl 170),
 (162,⟨true,2,40,[vs,vn],.struct [(0,1),(1,1)],[]⟩),
 (164,⟨false,1,8,[.int .u64 0],.int .u64,[]⟩),
 (170,⟨true,2,24,[vi,vs],.struct [(0,1),(1,1)],[]⟩),
 (182,⟨true,18,240,[vn,.bool false,vi,vs,vs,vi,vi,vs,vi,vi,vs,vi,vi,vi,vs,vs,vn,vn],.struct [(0,1),(1,1),(2,16)],[]⟩),
 (188,⟨true,4,48,[vi,vs,vs,vi],.struct [(0,1),(1,1),(2,1),(3,1)],[]⟩),
 (190,⟨true,3,40,[vn,vi,vi],.struct [(0,1),(1,1),(2,1)],[]⟩),
 (216,⟨true,24,312,[vs,vi,vi,vi,vs,vs,.bool false,vi,vs,vs,vi,vi,vs,vi,vi,vs,vi,vi,vi,vs,vs,vn,vn,vn],.struct [(0,1),(1,5),(6,1),(7,16),(23,1)],[]⟩),
 (262,sl 3),
 (282,⟨true,18,232,[vs,.bool false,vi,vs,vs,vi,vi,vs,vi,vi,vs,vi,vi,vi,vs,vs,vn,vn],.struct [(0,1),(1,1),(2,16)],[]⟩),
 (286,⟨true,19,232,[vi,vs,vs,vi,vi,vs,vi,vi,vs,vi,vi,vi,vs,vs,vn,vn,.bool false,.bool false,vs],.struct [(0,16),(16,1),(17,1),(18,1)],[]⟩),
 (290,⟨true,17,232,[vi,vs,vs,vi,vi,vs,vi,vi,vs,vi,vi,vi,vs,vs,vn,vn,vn],.struct [(0,16),(16,1)],[]⟩),
 (294,⟨true,2,48,[vn,vn],.struct [(0,1),(1,1)],[]⟩),
 (321,⟨true,2,32,[.bool false,vn],.struct [(0,1),(1,1)],[]⟩),
 (333,sl 341),
 (337,⟨false,1,8,[.pointer none],.ptr,[]⟩),
 (339,⟨true,3,40,[vn,vi,.bool false],.struct [(0,1),(1,1),(2,1)],[]⟩),
 (341,⟨true,3,32,[vi,vs,vi],.struct [(0,1),(1,1),(2,1)],[]⟩),
 (396,sl 44),
 (401,⟨false,1,8,[.float .f64 0],.flt,[]⟩),
 (408,⟨true,2,24,[vs,vi],.struct [(0,1),(1,1)],[]⟩)]
def ty(t:Nat):Option TI:=Ck.get tiL t
theorem tiA:∀p∈tiL,KO prog p.1 p.2:=
 Bb (Cv AQ (Tryz.typeInfo3 default) zeroValue3 underlying3 rfl rfl rfl rfl) (
 Bb (Cv Cm (Tryz.typeInfo4 default) zeroValue4 underlying4 rfl rfl rfl rfl) (
 Bb (Cv iy5 (Tryz.typeInfo5 default) zeroValue5 underlying5 rfl rfl rfl rfl) (
 Bb (Cv AK (Tryz.typeInfo9 default) zeroValue9 underlying9 rfl rfl rfl rfl) (
 Bb (Cv V2 (Tryz.typeInfo22 default) zeroValue22 underlying22 rfl rfl rfl rfl) (
 Bb (Cv EQ (Tryz.typeInfo26 default) zeroValue26 underlying26 rfl rfl rfl rfl) (
 Bb (Cv Qd (Tryz.typeInfo27 default) zeroValue27 underlying27 rfl rfl rfl rfl) (
 Bb (Cv Qe (Tryz.typeInfo28 default) zeroValue28 underlying28 rfl rfl rfl rfl) (
 Bb (Cv Qf (Tryz.typeInfo29 default) zeroValue29 underlying29 rfl rfl rfl rfl) (
 Bb (Cv Jn (Tryz.typeInfo30 default) zeroValue30 underlying30 rfl rfl rfl rfl) (
 Bb (Cv Gp (Tryz.typeInfo31 default) zeroValue31 underlying31 rfl rfl rfl rfl) (
 Bb (Cv Gq (Tryz.typeInfo32 default) zeroValue32 underlying32 rfl rfl rfl rfl) (
 Bb (Cv Hv (Tryz.typeInfo33 default) zeroValue33 underlying33 rfl rfl rfl rfl) (
 Bb (Cv Hw (Tryz.typeInfo34 default) zeroValue34 underlying34 rfl rfl rfl rfl) (
 Bb (CI Ev (Tryz.typeInfo36 default) zeroValue36 (CH underlying36 ⟨rfl,sizeOf9,rfl,rfl,sizeOf26,rfl,rfl,sizeOf27,rfl,rfl,sizeOf28,rfl,rfl,sizeOf29,rfl,rfl,sizeOf30,rfl,rfl,sizeOf31,rfl,rfl,sizeOf32,rfl,rfl,sizeOf33,rfl,rfl,sizeOf34,rfl,trivial⟩) rfl rfl rfl rfl) (
 Bb (Cv Nm (Tryz.typeInfo37 default) zeroValue37 underlying37 rfl rfl rfl rfl) (
 Bb (Cv Ei (Tryz.typeInfo44 default) zeroValue44 underlying44 rfl rfl rfl rfl) (
 Bb (Cv Gr (Tryz.typeInfo46 default) zeroValue46 trivial rfl rfl rfl rfl) (
 Bb (CI ER (Tryz.typeInfo48 default) zeroValue48 (CH underlying48 ⟨rfl,sizeOf9,rfl,rfl,sizeOf46,rfl,rfl,sizeOf3,rfl,rfl,sizeOf3,rfl,trivial⟩) rfl rfl rfl rfl) (
 Bb (Cv Ew (Tryz.typeInfo56 default) zeroValue56 underlying56 rfl rfl rfl rfl) (
 Bb (Cv Kh (Tryz.typeInfo57 default) zeroValue57 underlying57 rfl rfl rfl rfl) (
 Bb (CI Aae (Tryz.typeInfo59 default) zeroValue59 (CH underlying59 ⟨rfl,sizeOf3,rfl,rfl,sizeOf9,rfl,trivial⟩) rfl rfl rfl rfl) (
 Bb (CI Is (Tryz.typeInfo61 default) zeroValue61 (CH underlying61 ⟨rfl,sizeOf3,rfl,rfl,sizeOf9,rfl,trivial⟩) rfl rfl rfl rfl) (
 Bb (CI Ex (Tryz.typeInfo63 default) zeroValue63 (CH underlying63 ⟨rfl,sizeOf3,rfl,rfl,sizeOf3,rfl,rfl,sizeOf61,rfl,rfl,sizeOf9,rfl,trivial⟩) rfl rfl rfl rfl) (
 Bb (Cv FP (Tryz.typeInfo64 default) zeroValue64 underlying64 rfl rfl rfl rfl) (
 Bb (CI Cr (Tryz.typeInfo66 default) zeroValue66 (CH underlying66 ⟨rfl,sizeOf3,rfl,rfl,sizeOf9,rfl,rfl,sizeOf9,rfl,rfl,sizeOf3,rfl,rfl,sizeOf59,rfl,rfl,sizeOf3,rfl,rfl,sizeOf61,rfl,rfl,sizeOf63,rfl,rfl,sizeOf44,rfl,rfl,sizeOf64,rfl,trivial⟩) rfl rfl rfl rfl) (
 Bb (Cv Ki (Tryz.typeInfo67 default) zeroValue67 underlying67 rfl rfl rfl rfl) (
 Bb (Cv Hx (Tryz.typeInfo68 default) zeroValue68 underlying68 rfl rfl rfl rfl) (
 Bb (Cv Kj (Tryz.typeInfo69 default) zeroValue69 underlying69 rfl rfl rfl rfl) (
 Bb (Cv It (Tryz.typeInfo70 default) zeroValue70 underlying70 rfl rfl rfl rfl) (
 Bb (Au8) (
 Bb (CI Jp (Tryz.typeInfo74 default) zeroValue74 (CH underlying74 ⟨rfl,sizeOf64,rfl,rfl,sizeOf9,rfl,rfl,sizeOf44,rfl,rfl,sizeOf4,rfl,rfl,sizeOf9,rfl,rfl,sizeOf68,rfl,rfl,sizeOf56,rfl,rfl,sizeOf9,rfl,rfl,sizeOf3,rfl,rfl,sizeOf3,rfl,rfl,sizeOf3,rfl,rfl,sizeOf3,rfl,trivial⟩) rfl rfl rfl rfl) (
 Bb (CI Jq (Tryz.typeInfo76 default) zeroValue76 (CH underlying76 ⟨rfl,sizeOf9,rfl,rfl,sizeOf64,rfl,rfl,sizeOf66,rfl,trivial⟩) rfl rfl rfl rfl) (
 Bb (Cv ⟨isAgg78,sizeOf78⟩ (Tryz.typeInfo78 default) zeroValue78 underlying78 rfl rfl rfl rfl) (
 Bb (CI Gs (Tryz.typeInfo84 default) zeroValue84 (CH underlying84 ⟨rfl,sizeOf9,rfl,rfl,sizeOf9,rfl,rfl,sizeOf4,rfl,rfl,sizeOf4,rfl,rfl,sizeOf9,rfl,rfl,sizeOf3,rfl,trivial⟩) rfl rfl rfl rfl) (
 Bb (Cv ⟨isAgg107,sizeOf107⟩ (Tryz.typeInfo107 default) zeroValue107 underlying107 rfl rfl rfl rfl) (
 Bb (CI ⟨isAgg109,sizeOf109⟩ (Tryz.typeInfo109 default) zeroValue109 (CH underlying109 ⟨rfl,sizeOf3,rfl,rfl,sizeOf9,rfl,rfl,sizeOf9,rfl,rfl,sizeOf107,rfl,rfl,sizeOf3,rfl,rfl,sizeOf3,rfl,trivial⟩) rfl rfl rfl rfl) (
 Bb (CI ⟨isAgg111,sizeOf111⟩ (Tryz.typeInfo111 default) zeroValue111 (CH underlying111 ⟨rfl,sizeOf9,rfl,rfl,sizeOf9,rfl,trivial⟩) rfl rfl rfl rfl) (
 Bb (Cv ⟨isAgg112,sizeOf112⟩ (Tryz.typeInfo112 default) zeroValue112 underlying112 rfl rfl rfl rfl) (
 Bb (CI ⟨isAgg114,sizeOf114⟩ (Tryz.typeInfo114 default) zeroValue114 (CH underlying114 ⟨rfl,sizeOf112,rfl,trivial⟩) rfl rfl rfl rfl) (
 Bb (Cv ⟨isAgg117,sizeOf117⟩ (Tryz.typeInfo117 default) zeroValue117 underlying117 rfl rfl rfl rfl) (
 Bb (CI ⟨isAgg122,sizeOf122⟩ (Tryz.typeInfo122 default) zeroValue122 (CH underlying122 ⟨rfl,sizeOf4,rfl,rfl,sizeOf9,rfl,rfl,sizeOf107,rfl,rfl,sizeOf9,rfl,rfl,sizeOf3,rfl,rfl,sizeOf3,rfl,rfl,sizeOf117,rfl,trivial⟩) rfl rfl rfl rfl) (
 Bb (Cv ⟨isAgg123,sizeOf123⟩ (Tryz.typeInfo123 default) zeroValue123 trivial rfl rfl rfl rfl) (
 Bb (CI ⟨isAgg125,sizeOf125⟩ (Tryz.typeInfo125 default) zeroValue125 (CH underlying125 ⟨rfl,sizeOf3,rfl,rfl,sizeOf3,rfl,rfl,sizeOf37,rfl,trivial⟩) rfl rfl rfl rfl) (
 Bb (Cv ⟨isAgg130,sizeOf130⟩ (Tryz.typeInfo130 default) zeroValue130 underlying130 rfl rfl rfl rfl) (
 Bb (CI Ji (Tryz.typeInfo140 default) zeroValue140 (CH underlying140 ⟨rfl,sizeOf9,rfl,rfl,sizeOf68,rfl,rfl,sizeOf63,rfl,rfl,sizeOf66,rfl,rfl,sizeOf9,rfl,rfl,sizeOf3,rfl,rfl,sizeOf3,rfl,rfl,sizeOf3,rfl,trivial⟩) rfl rfl rfl rfl) (
 Bb (CI Jj (Tryz.typeInfo144 default) zeroValue144 (CH underlying144 ⟨rfl,sizeOf9,rfl,rfl,sizeOf4,rfl,rfl,sizeOf63,rfl,rfl,sizeOf4,rfl,rfl,sizeOf66,rfl,rfl,sizeOf56,rfl,rfl,sizeOf9,rfl,rfl,sizeOf3,rfl,rfl,sizeOf3,rfl,rfl,sizeOf3,rfl,trivial⟩) rfl rfl rfl rfl) (
 Bb (Cv Jk (Tryz.typeInfo149 default) zeroValue149 underlying149 rfl rfl rfl rfl) (
 Bb (CI Gn (Tryz.typeInfo151 default) zeroValue151 (CH underlying151 ⟨rfl,sizeOf9,rfl,rfl,sizeOf66,rfl,rfl,sizeOf149,rfl,trivial⟩) rfl rfl rfl rfl) (
 Bb (CI Hs (Tryz.typeInfo157 default) zeroValue157 (CH underlying157 ⟨rfl,sizeOf9,rfl,rfl,sizeOf9,rfl,rfl,sizeOf4,rfl,rfl,sizeOf4,rfl,rfl,sizeOf44,rfl,trivial⟩) rfl rfl rfl rfl) (
 Bb (Cv Ke (Tryz.typeInfo160 default) zeroValue160 underlying160 rfl rfl rfl rfl) (
 Bb (CI Ht (Tryz.typeInfo162 default) zeroValue162 (CH underlying162 ⟨rfl,sizeOf9,rfl,rfl,sizeOf160,rfl,trivial⟩) rfl rfl rfl rfl) (
 Bb (Cv ⟨isAgg164,sizeOf164⟩ (Tryz.typeInfo164 default) zeroValue164 underlying164 rfl rfl rfl rfl) (
 Bb (CI Kf (Tryz.typeInfo170 default) zeroValue170 (CH underlying170 ⟨rfl,sizeOf3,rfl,rfl,sizeOf9,rfl,trivial⟩) rfl rfl rfl rfl) (
 Bb (CI Jl (Tryz.typeInfo182 default) zeroValue182 (CH underlying182 ⟨rfl,sizeOf64,rfl,rfl,sizeOf4,rfl,rfl,sizeOf66,rfl,trivial⟩) rfl rfl rfl rfl) (
 Bb (CI ⟨isAgg188,sizeOf188⟩ (Tryz.typeInfo188 default) zeroValue188 (CH underlying188 ⟨rfl,sizeOf3,rfl,rfl,sizeOf9,rfl,rfl,sizeOf9,rfl,rfl,sizeOf3,rfl,trivial⟩) rfl rfl rfl rfl) (
 Bb (CI ⟨isAgg190,sizeOf190⟩ (Tryz.typeInfo190 default) zeroValue190 (CH underlying190 ⟨rfl,sizeOf114,rfl,rfl,sizeOf3,rfl,rfl,sizeOf3,rfl,trivial⟩) rfl rfl rfl rfl) (
 Bb (CI Hu (Tryz.typeInfo216 default) zeroValue216 (CH underlying216 ⟨rfl,sizeOf9,rfl,rfl,sizeOf63,rfl,rfl,sizeOf4,rfl,rfl,sizeOf66,rfl,rfl,sizeOf56,rfl,trivial⟩) rfl rfl rfl rfl) (
 Bb (Cv Lp (Tryz.typeInfo262 default) zeroValue262 underlying262 rfl rfl rfl rfl) (
 Bb (CI Jm (Tryz.typeInfo282 default) zeroValue282 (CH underlying282 ⟨rfl,sizeOf9,rfl,rfl,sizeOf4,rfl,rfl,sizeOf66,rfl,trivial⟩) rfl rfl rfl rfl) (
 Bb (CI Iq (Tryz.typeInfo286 default) zeroValue286 (CH underlying286 ⟨rfl,sizeOf66,rfl,rfl,sizeOf4,rfl,rfl,sizeOf4,rfl,rfl,sizeOf9,rfl,trivial⟩) rfl rfl rfl rfl) (
 Bb (CI Kg (Tryz.typeInfo290 default) zeroValue290 (CH underlying290 ⟨rfl,sizeOf66,rfl,rfl,sizeOf67,rfl,trivial⟩) rfl rfl rfl rfl) (
 Bb (CI Ir (Tryz.typeInfo294 default) zeroValue294 (CH underlying294 ⟨rfl,sizeOf262,rfl,rfl,sizeOf56,rfl,trivial⟩) rfl rfl rfl rfl) (
 Bb (CI ⟨isAgg321,sizeOf321⟩ (Tryz.typeInfo321 default) zeroValue321 (CH underlying321 ⟨rfl,sizeOf4,rfl,rfl,sizeOf262,rfl,trivial⟩) rfl rfl rfl rfl) (
 Bb (Cv ⟨isAgg333,sizeOf333⟩ (Tryz.typeInfo333 default) zeroValue333 underlying333 rfl rfl rfl rfl) (
 Bb (Cv ⟨isAgg337,sizeOf337⟩ (Tryz.typeInfo337 default) zeroValue337 trivial rfl rfl rfl rfl) (
 Bb (CI ⟨isAgg339,sizeOf339⟩ (Tryz.typeInfo339 default) zeroValue339 (CH underlying339 ⟨rfl,sizeOf333,rfl,rfl,sizeOf3,rfl,rfl,sizeOf4,rfl,trivial⟩) rfl rfl rfl rfl) (
 Bb (CI ⟨isAgg341,sizeOf341⟩ (Tryz.typeInfo341 default) zeroValue341 (CH underlying341 ⟨rfl,sizeOf3,rfl,rfl,sizeOf9,rfl,rfl,sizeOf3,rfl,trivial⟩) rfl rfl rfl rfl) (
 Bb (Cv ⟨isAgg396,sizeOf396⟩ (Tryz.typeInfo396 default) zeroValue396 underlying396 rfl rfl rfl rfl) (
 Bb (Cv ⟨isAgg401,sizeOf401⟩ (Tryz.typeInfo401 default) zeroValue401 trivial rfl rfl rfl rfl) (
 Bb (CI ⟨isAgg408,sizeOf408⟩ (Tryz.typeInfo408 default) zeroValue408 (CH underlying408 ⟨rfl,sizeOf9,rfl,rfl,sizeOf3,rfl,trivial⟩) rfl rfl rfl rfl) (nofun)))))))))))))))))))))))))))))))))))))))))))))))))))))))))))))))))))))))
theorem QQ:CB prog ty:=λ_ _ h=>tiA _ (Eh h)
end Go.Ck