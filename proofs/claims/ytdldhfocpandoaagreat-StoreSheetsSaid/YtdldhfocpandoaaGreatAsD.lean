import Derived.Test.YtdldhfocpandoaaGreatAsB1
import Derived.Test.YtdldhfocpandoaaGreatAsB2
import Derived.Test.YtdldhfocpandoaaGreatAsB3
import Derived.Test.YtdldhfocpandoaaGreatAsB4
import Derived.Test.YtdldhfocpandoaaGreatAsB5
import Derived.Test.YtdldhfocpandoaaGreatAsB6
import Derived.Test.YtdldhfocpandoaaGreatAsB7
import Derived.Test.YtdldhfocpandoaaGreatAsB8
import Derived.Test.YtdldhfocpandoaaGreatAsB9
import Derived.Test.YtdldhfocpandoaaGreatAsC1
import Derived.Test.YtdldhfocpandoaaGreatAsC2
import Derived.Test.YtdldhfocpandoaaGreatAsC3
import Derived.Test.YtdldhfocpandoaaGreatAsC4
import Derived.Test.YtdldhfocpandoaaGreatAsC5
import Derived.Test.YtdldhfocpandoaaGreatHdA
import Derived.Test.YtdldhfocpandoaaGreatCkC
import Derived.Test.YtdldhfocpandoaaGreatStA
import Derived.Test.YtdldhfocpandoaaGreatCkH
import Derived.KernelRfl
noncomputable section
set_option maxHeartbeats 8000000
set_option maxRecDepth 8000
namespace Go.Ck
open Go.Sx Go.Proofs Go.Proofs.Tryz
set_option maxRecDepth 100000
theorem fc{α:Type}{P:α->Prop}{a:α}{l:List α}(h:P a)(t:∀x∈l,P x):∀x∈a::l,P x:=List.forall_mem_cons.2 ⟨h,t⟩
theorem fn{α:Type}{P:α->Prop}:∀x∈([]:List α),P x:=λ_ h=>nomatch h
theorem Atx:∀p∈JS,GB prog p.1:=
 fc call24 (fc call25 (fc call46 (fc call47 (fc call48 (fc call49 (fc call50 (fc call51 (fc call52 (fc call98 (fc call99 (fc call100 (fc call101 (fc call102 (fc call103 (fc call104 (fc call105 (fc call106 (fc call107 (fc call108 (fc call109 (fc call110 (fc call111 (fc call112 (fc call113 (fc call114 (fc call170 (fc call171 (fc call172 (fc call173 (fc call174 (fc call175 (fc call176 (fc call177 (fc call178 (fc call179 (fc call180 (fc call181 (fc call182 (fc call183 (fc call184 (fc call185 (fc call186 (fc call187 (fc call188 (fc call221 (fc call222 (fc call223 (fc call224 (fc call225 (fc call226 (fc call227 (fc call228 (fc call229 (fc call230 (fc call231 (fc call232 (fc call233 (fc call234 (fc call235 (fc call236 (fc call237 (fc call238 (fc call239 (fc call240 (fc call255 (fc call256 (fc call257 (fc call258 (fc call259 (fc call260 (fc call261 (fc call262 (fc call263 (fc call264 (fc call265 (fc call266 (fc call267 (fc call268 (fc call269 (fc call270 (fc call271 (fc call272 (fc call273 (fc call274 (fc call275 (fc call276 (fc call277 (fc call278 (fc call279 (fc call280 (fc call281 (fc call282 (fc call283 (fc call284 (fc call285 (fc call287 (fc call288 (fc call289 (fc call290 (fc call291 (fc call292 (fc call293 (fc call294 (fc call295 (fc call296 (fc call297 (fc call298 (fc call299 (fc call300 (fc call301 (fc call302 (fc call303 (fc call304 (fc call305 (fc call306 (fc call307 (fc call308 (fc call309 (fc call310 (fc call311 (fc call312 (fc call313 (fc call314 (fc call315 (fc call316 (fc call317 (fc call318 (fc call319 (fc call320 (fc call321 (fc call322 (fc call323 (fc call324 (fc call325 (fc call326 (fc call327 (fc call328 (fc call329 (fc call330 (fc call331 (fc call332 (fc call333 (fc call334 (fc call335 (fc call336 (fc call337 (fc call338 (fc call339 (fc call340 (fc call341 (fc call342 (fc call343 (fc call344 (fc call345 (fc call346 (fc call347 (fc call348 (fc call349 (fc call350 (fc call351 (fc call352 (fc call355 (fc call356 (fc call357 (fc call358 (fc call359 (fc call360 (fc call361 (fc call362 (fc call363 (fc call364 (fc call365 (fc call366 (fc call367 (fc call368 (fc call369 (fc call370 (fc call372 (fc call373 (fc call374 fn))))))))))))))))))))))))))))))))))))))))))))))))))))))))))))))))))))))))))))))))))))))))))))))))))))))))))))))))))))))))))))))))))))))))))))))))))))))))))))))))))))))))))))))))))))
theorem Au:∀f con',con'∈con f->GB prog f:=by
 intro f c h;obtain⟨l,hl⟩:∃l,Ck.get JS f=some l:=by
  cases hg:Ck.get JS f with
  |none=>simp[con,hg]at h
  |some l=>exact⟨l,rfl⟩
 exact Atx _ (Eh hl)
theorem Auv:∀c∈c305,FZ prog eT con 305 c:=by
 intro c hc;obtain⟨i,hi,rfl⟩:=List.mem_iff_getElem.1 hc;cases i with
 |zero=>exact Aum _ (Bm hi)
 |succ i=>
  have h:=Akb;simp only[Bg]at h;have hm:(c305[i+1],i+1)∈c305.zipIdx.drop 1:=by
   rw[List.mem_iff_getElem];refine⟨i,by simp at hi⊢;omega,?_⟩;simp[R_]
  exact Acv Au func305 V (h _ hm)
theorem Aut:∀p∈JS,∀c∈p.2,FZ prog eT con p.1 c:=
 fc (Av Au func24 rfl Aix) (
 fc (Av Au func25 rfl Aiz) (
 fc (Av Au func46 rfl Al4) (
 fc (Aup) (
 fc (Av Au func48 rfl Al5) (
 fc (Av Au func49 rfl Al6) (
 fc (Av Au func50 rfl Al7) (
 fc (Av Au func51 rfl Al8) (
 fc (Av Au func52 rfl Al9) (
 fc (Av Au func98 rfl Al_) (
 fc (Av Au func99 rfl Ama) (
 fc (Av Au func100 rfl Ahj) (
 fc (Av Au func101 rfl Ahk) (
 fc (Av Au func102 rfl Ahl) (
 fc (Av Au func103 rfl Ahm) (
 fc (Av Au func104 rfl Ahn) (
 fc (Av Au func105 rfl Aho) (
 fc (Av Au func106 rfl Ahp) (
 fc (Av Au func107 rfl Ahq) (
 fc (Av Au func108 rfl Ahr) (
 fc (Av Au func109 rfl Ahs) (
 fc (Av Au func110 rfl Aht) (
 fc (Av Au func111 rfl Ahu) (
 fc (Av Au func112 rfl Ahv) (
 fc (Av Au func113 rfl Ahw) (
 fc (Av Au func114 rfl Ahx) (
 fc (Av Au func170 rfl Ahy) (
 fc (Auk) (
 fc (Av Au func172 rfl Ahz) (
 fc (Aul) (
 fc (Av Au func174 rfl Ah0) (
 fc (Av Au func175 rfl Ah1) (
 fc (Av Au func176 rfl Ah2) (
 fc (Av Au func177 rfl Ah3) (
 fc (Av Au func178 rfl Ah4) (
 fc (Av Au func179 rfl Ah5) (
 fc (Av Au func180 rfl Ah6) (
 fc (Av Au func181 rfl Ah7) (
 fc (Av Au func182 rfl Ah8) (
 fc (Av Au func183 rfl Ah9) (
 fc (Av Au func184 rfl Ah_) (
 fc (Av Au func185 rfl Aia) (
 fc (Av Au func186 rfl Aib) (
 fc (Av Au func187 rfl Aic) (
 fc (Av Au func188 rfl Aid) (
 fc (Av Au func221 rfl Aie) (
 fc (Av Au func222 rfl Aif) (
 fc (Av Au func223 rfl Aig) (
 fc (Av Au func224 rfl Aih) (
 fc (Av Au func225 rfl Aii) (
 fc (Av Au func226 rfl Aij) (
 fc (Av Au func227 rfl Aik) (
 fc (Av Au func228 rfl Ail) (
 fc (Av Au func229 rfl Aim) (
 fc (Av Au func230 rfl Ain) (
 fc (Av Au func231 rfl Aio) (
 fc (Av Au func232 rfl Aip) (
 fc (Av Au func233 rfl Aiq) (
 fc (Av Au func234 rfl Air) (
 fc (Av Au func235 rfl Ais) (
 fc (Av Au func236 rfl Ait) (
 fc (Av Au func237 rfl Aiu) (
 fc (Av Au func238 rfl Aiv) (
 fc (Av Au func239 rfl Aiw) (
 fc (Av Au func240 rfl Aiy) (
 fc (Av Au func255 rfl Ai0) (
 fc (Av Au func256 rfl Ai1) (
 fc (Av Au func257 rfl Ai2) (
 fc (Av Au func258 rfl Ai3) (
 fc (Av Au func259 rfl Ai4) (
 fc (Av Au func260 rfl Ai5) (
 fc (Av Au func261 rfl Ai6) (
 fc (Av Au func262 rfl Ai7) (
 fc (Av Au func263 rfl Ai8) (
 fc (Av Au func264 rfl Ai9) (
 fc (Av Au func265 rfl Ai_) (
 fc (Av Au func266 rfl Aja) (
 fc (Av Au func267 rfl Ajb) (
 fc (Av Au func268 rfl Ajc) (
 fc (Av Au func269 rfl Ajd) (
 fc (Av Au func270 rfl Aje) (
 fc (Av Au func271 rfl Ajf) (
 fc (Av Au func272 rfl Ajg) (
 fc (Av Au func273 rfl Ajh) (
 fc (Av Au func274 rfl Aji) (
 fc (Av Au func275 rfl Ajj) (
 fc (Av Au func276 rfl Ajk) (
 fc (Av Au func277 rfl Ajl) (
 fc (Av Au func278 rfl Ajm) (
 fc (Av Au func279 rfl Ajn) (
 fc (Av Au func280 rfl Ajo) (
 fc (Av Au func281 rfl Ajp) (
 fc (Av Au func282 rfl Ajq) (
 fc (Av Au func283 rfl Ajr) (
 fc (Av Au func284 rfl Ajs) (
 fc (Av Au func285 rfl Ajt) (
 fc (Av Au func287 rfl Aju) (
 fc (Av Au func288 rfl Ajv) (
 fc (Av Au func289 rfl Ajw) (
 fc (Av Au func290 rfl Ajx) (
 fc (Av Au func291 rfl Ajy) (
 fc (Av Au func292 rfl Ajz) (
 fc (Av Au func293 rfl Aj0) (
 fc (Av Au func294 rfl Aj1) (
 fc (Av Au func295 rfl Aj2) (
 fc (Av Au func296 rfl Aj3) (
 fc (Av Au func297 rfl Aj4) (
 fc (Av Au func298 rfl Aj5) (
 fc (Av Au func299 rfl Aj6) (
 fc (Av Au func300 rfl Aj7) (
 fc (Av Au func301 rfl Aj8) (
 fc (Av Au func302 rfl Aj9) (
 fc (Av Au func303 rfl Aj_) (
 fc (Av Au func304 rfl Aka) (
 fc (Auv) (
 fc (Av Au func306 rfl Akc) (
 fc (Av Au func307 rfl Akd) (
 fc (Av Au func308 rfl Ake) (
 fc (Av Au func309 rfl Akf) (
 fc (Av Au func310 rfl Akg) (
 fc (Av Au func311 rfl Akh) (
 fc (Av Au func312 rfl Aki) (
 fc (Av Au func313 rfl Akj) (
 fc (Av Au func314 rfl Akk) (
 fc (Av Au func315 rfl Akl) (
 fc (Av Au func316 rfl Akm) (
 fc (Av Au func317 rfl Akn) (
 fc (Av Au func318 rfl Ako) (
 fc (Av Au func319 rfl Akp) (
 fc (Av Au func320 rfl Akq) (
 fc (Av Au func321 rfl Akr) (
 fc (Av Au func322 rfl Aks) (
 fc (Av Au func323 rfl Akt) (
 fc (Av Au func324 rfl Aku) (
 fc (Av Au func325 rfl Akv) (
 fc (Av Au func326 rfl Akw) (
 fc (Av Au func327 rfl Akx) (
 fc (Av Au func328 rfl Aky) (
 fc (Av Au func329 rfl Akz) (
 fc (Av Au func330 rfl Ak0) (
 fc (Av Au func331 rfl Ak1) (
 fc (Av Au func332 rfl Ak2) (
 fc (Av Au func333 rfl Ak3) (
 fc (Av Au func334 rfl Ak4) (
 fc (Av Au func335 rfl Ak5) (
 fc (Av Au func336 rfl Ak6) (
 fc (Av Au func337 rfl Ak7) (
 fc (Av Au func338 rfl Ak8) (
 fc (Av Au func339 rfl Ak9) (
 fc (Av Au func340 rfl Ak_) (
 fc (Av Au func341 rfl Ala) (
 fc (Av Au func342 rfl Alb) (
 fc (Av Au func343 rfl Alc) (
 fc (Av Au func344 rfl Ald) (
 fc (Av Au func345 rfl Ale) (
 fc (Av Au func346 rfl Alf) (
 fc (Av Au func347 rfl Alg) (
 fc (Av Au func348 rfl Alh) (
 fc (Av Au func349 rfl Ali) (
 fc (Av Au func350 rfl Alj) (
 fc (Av Au func351 rfl Alk) (
 fc (Av Au func352 rfl Alm) (
 fc (Av Au func355 rfl Aln) (
 fc (Av Au func356 rfl Alo) (
 fc (Av Au func357 rfl Alp) (
 fc (Av Au func358 rfl Alq) (
 fc (Av Au func359 rfl Alr) (
 fc (Av Au func360 rfl Als) (
 fc (Aun) (
 fc (Av Au func362 rfl Alt) (
 fc (Av Au func363 rfl Alu) (
 fc (Av Au func364 rfl Alv) (
 fc (Av Au func365 rfl Alw) (
 fc (Auo) (
 fc (Av Au func367 rfl Alx) (
 fc (Av Au func368 rfl Aly) (
 fc (Av Au func369 rfl Alz) (
 fc (Av Au func370 rfl Al0) (
 fc (Av Au func372 rfl Al1) (
 fc (Av Au func373 rfl Al2) (
 fc (Av Au func374 rfl Al3) fn))))))))))))))))))))))))))))))))))))))))))))))))))))))))))))))))))))))))))))))))))))))))))))))))))))))))))))))))))))))))))))))))))))))))))))))))))))))))))))))))))))))))))))))))))))
theorem Sh:∀f c,c∈con f->Hd prog eT f c λ_=>True:=by
 refine Au3 λf c h=>?_;obtain⟨l,hl⟩:∃l,Ck.get JS f=some l:=by
  cases hg:Ck.get JS f with
  |none=>simp[con,hg]at h
  |some l=>exact⟨l,rfl⟩
 have:con f=l:=by simp[con,hl]
 exact Aut _ (Eh hl) c (by rw[<-this];exact h)
def Li:Nat->Ty->List Ty
 |n+1,.st s=>s.fields.flatMap (Li n)
 |0,_=>[]
 |_+1,f=>[f]
def Jy:Nat->Ty->Nat
 |n+1,.st s=>1+(s.fields.map (Jy n)).sum
 |_,_=>0
def Lh:Nat->Ty->Bool
 |n+1,.st s=>s.fields.all (Lh n)&&Nat.beq s.size (s.fields.map Ty.size).sum
 |0,_=>false
 |_+1,_=>true
def Leafs(w:World)(S:Nat->Prop):List Ty->List Value->Nat->Prop
 |[],[],n=>n=0
 |f::fs,c::cs,n=>∃(t:Go.Sx.T) (m:Nat),Rep w S t f [c]/\n=t.wt+m/\Leafs w S fs cs m
 |_,_,_=>False
section
variable{w:World}{S:Nat->Prop}
theorem Xn:∀{l k:List Ty}{cs:List Value}{n:Nat},Leafs w S (l++k) cs n->∃c1 c2 n1 n2,cs=c1++c2/\n=n1+n2/\Leafs w S l c1 n1/\Leafs w S k c2 n2
 |[],k,cs,n,h=>⟨[],cs,0,n,rfl,by omega,rfl,h⟩
 |f::l,k,[],n,h=>h.elim
 |f::l,k,c::cs,n,h=>by
  obtain⟨t,m,h1,h2,h3⟩:=h;obtain⟨c1,c2,n1,n2,rfl,rfl,h4,h5⟩:=Xn h3;exact⟨c::c1,c2,t.wt+n1,n2,rfl,by omega,⟨t,n1,h1,rfl,h4⟩,h5⟩
theorem QS:∀(n:Nat) (f:Ty) (cs:List Value) (k:Nat),Lh n f=true->Leafs w S (Li n f) cs k->cs.length=f.size/\∃t:Go.Sx.T,Rep w S t f cs/\t.wt=k+Jy n f
 |0,f,cs,k,hf,h=>by cases f<;>simp[Lh]at hf
 |n+1,f,cs,k,hf,h=>by
  have leaf:Li (n+1) f=[f]->Jy (n+1) f=0->f.size=1->cs.length=f.size/\∃t:Go.Sx.T,Rep w S t f cs/\t.wt=k+Jy (n+1) f:=by
   intro h1 h2 h3;rw[h1]at h;match cs,h with
   |c::cs,h=>
    obtain⟨t,m,h4,h5,h6⟩:=h;match cs,h6 with
    |[],h6=>
     have h6:m=0:=h6;exact⟨by simp[h3],t,h4,by omega⟩
  cases f with
  |st s=>
   simp only[Lh,Aq,Bg]at hf;have key:∀(fs:List Ty),(∀f∈fs,Lh n f=true)->∀(cs:List Value) (k:Nat),Leafs w S (fs.flatMap (Li n)) cs k->
    cs.length=(fs.map Ty.size).sum/\∃l,(∀pre:List Value,RepF w S l fs pre.length (pre++cs))/\Bf l=k+(fs.map (Jy n)).sum:=by
    intro fs;induction fs with
    |nil=>
     intro _ cs k h;simp only[List.flatMap_nil]at h;cases cs with
     |nil=>have h:k=0:=h;exact⟨rfl,[],λpre=>by simp only[RepF],by simp[Bf,h]⟩
     |cons c cs=>exact h.elim
    |cons f fs ih=>
     intro hfs cs k h;simp only[List.flatMap_cons]at h;obtain⟨c1,c2,n1,n2,rfl,rfl,h1,h2⟩:=Xn h;obtain⟨e1,t,e2,e3⟩:=QS n f c1 n1 (hfs f (by simp)) h1;obtain⟨g1,l,g2,g3⟩:=ih (λf hf=>hfs f (by simp[hf])) c2 n2 h2;refine⟨by simp only[Bh,CA,List.sum_cons];omega,t::l,λpre=>?_,?_⟩
     ·simp only[RepF];refine⟨?_,?_⟩
      ·rw[List.drop_left,<-e1,HP];exact e2
      ·have:=g2 (pre++c1);rw[Bh,e1,Dg]at this;exact this
     ·simp only[Bf,CA,List.sum_cons];omega
   obtain⟨e1,l,e2,e3⟩:=key s.fields hf.1 cs k h;have hs:=AH hf.2;refine⟨by show cs.length=s.size;omega,.agg s l,?_,?_⟩
   ·simp only[Rep];exact⟨trivial,by omega,e2 []⟩
   ·simp only[T.wt,Jy];omega
  |int=>exact leaf V V V
  |bool=>exact leaf V V V
  |str=>exact leaf V V V
  |list e=>exact leaf V V V
  |ptr e=>exact leaf V V V
end
def Nl:IntKind->Bool
 | .i64=>true
 |_=>false
def Gv(K:Nat->Ty)(good:Nat->Bool):CT->Ty->Bool
 | .int k _,.int=>Nl k
 | .kd _,.int=>true
 | .bool c,.bool=>Nat.ble 1 c
 | .str c0 c1 c2,.str=>Nat.ble 1 c0&&Nat.ble 1 c1&&Nat.ble 1 c2
 | .fz e c,.list f=>Nat.ble 1 c&&good e&&decide (K e=f)
 | .ar k c0 c1,.list .int=>Nl k&&Nat.ble 1 c0&&Nat.ble 1 c1
 | .pt e c0 c1,.ptr f=>Nat.ble 1 c0&&Nat.ble 1 c1&&good e&&decide (K e=f)
 |_,_=>false
def Lq(K:Nat->Ty)(good:Nat->Bool):List CT->List Ty->Bool
 |[],[]=>true
 |t::ts,f::fs=>Gv K good t f&&Lq K good ts fs
 |_,_=>false
def LA:CT->Nat
 | .int _ 0| .kd 0=>1
 |_=>0
def NR:List CT->Nat
 |[]=>0
 |t::ts=>LA t+NR ts
def Kl(Tb:Ar)(K:Nat->Ty)(good:Nat->Bool)(e:Nat):Bool:=
 Lq K good (Tb e).cells (Li 6 (K e))&&Lh 6 (K e)&&Nat.ble (Jy 6 (K e)+NR (Tb e).cells) (Tb e).base&&Nat.blt 0 (Tb e).cells.length
theorem ZL{c:Nat}(h:c≠0)(n:Int):1<=EP c n:=by unfold EP;rw[if_neg h];split<;>omega
variable{x:Value}{w:World}
theorem SU{b o:Nat}(h:w.cell? ⟨b,o,none⟩=some x):b<w.heap.size:=by
 cases hb:w.heap[b]? with
 |none=>simp[World.cell?,hb]at h
 |some y=>exact(FG.1 hb).1
section
variable{Tb:Ar}{K:Nat->Ty}{good:Nat->Bool}{w:World}{S:Nat->Prop}{M:AT}{A:AV}
theorem ZY{b k:Nat}{q:IntKind}{sz:Nat}(hA:LU w b q sz)(hq:Nl q=true):∀(n o:Nat),o+n<=sz->∃l:List Go.Sx.T,Go.Sx.RepL w S .int l b o/\l.length=n/\Bf l=n
 |0,o,_=>⟨[],by simp only[Go.Sx.RepL],rfl,by simp[Bf]⟩
 |n+1,o,h=>by
  obtain⟨l,h1,h2,h3⟩:=ZY (k:=k) hA hq n (o+1) (by omega);obtain⟨c,t,e1,e2,e3⟩:=hA;obtain⟨x,hx⟩:∃x,c[o]? =some x:=⟨_,Bm (by omega)⟩;obtain⟨m,rfl,hm⟩:=e3 x (BA hx);have hq:q= .i64:=by cases q<;>simp[Nl]at hq;rfl
  subst hq;refine⟨.int m::l,?_,by simp[h2],by simp only[Bf,T.wt];omega⟩;simp only[Go.Sx.RepL];refine⟨⟨[.int .i64 m],?_,rfl,?_⟩,h1⟩
  ·intro j v hj;cases j with
   |zero=>
    simp at hj;subst hj;simp only[World.cell?,e1,Hf];simpa using hx
   |succ j=>simp at hj
  ·simp only[Rep];refine⟨trivial,?_⟩;have h8:=hm.1;have h9:=hm.2;simp only[Cq,C1]at h8 h9;exact⟨by omega,by omega⟩
mutual
theorem Yl(hw:WOK w M A)(hS:∀b o x,M b o=some x->S b)(hSA:∀b q,A b=some q->S b)(hK:∀e,good e=true->Kl Tb K good e=true):∀(c:CV) (t:CT) (f:Ty) (x:Value),RepC Tb M A c t x->Gv K good t f=true->
 ∃d:Go.Sx.T,Rep w S d f [x]/\(d.wt:Int)<=Bl Tb c t+LA t
 | .int n,t,f,x,h,hl=>by
  cases t<;>simp only[RepC]at h;rename_i k c;cases f<;>simp only[Gv,FV]at hl;have hk:k= .i64:=by cases k<;>simp[Nl]at hl;rfl
  subst hk;obtain⟨rfl,h8,h9⟩:=h;simp only[Cq,C1]at h8 h9;refine⟨.int n,by simp only[Rep];exact⟨trivial,by omega,by omega⟩,?_⟩;simp only[T.wt,Bl];cases c with
  |zero=>have:=Je 0 n;simp only[LA];omega
  |succ c=>have:=ZL (c:=c+1) (by omega) n;omega
 | .kd n,t,f,x,h,hl=>by
  cases t<;>simp only[RepC]at h;rename_i c;cases f<;>simp only[Gv,FV]at hl;obtain⟨rfl,h8,h9⟩:=h;simp only[Cq,C1]at h8 h9;refine⟨.int n,by simp only[Rep];exact⟨trivial,by omega,by omega⟩,?_⟩;simp only[T.wt,Bl];cases c with
  |zero=>have:=Je 0 n;simp only[LA];omega
  |succ c=>have:=ZL (c:=c+1) (by omega) n;omega
 | .bool b,t,f,x,h,hl=>by
  cases t<;>simp only[RepC]at h;cases f<;>simp only[Gv,FV]at hl;have:=CK hl;subst h;exact⟨.bool b,by simp only[Rep],by simp only[T.wt,Bl];omega⟩
 | .str s,t,f,x,h,hl=>by
  cases t<;>simp only[RepC]at h;rename_i c0 c1 c2;cases f<;>simp only[Gv,FV,Aq]at hl;have h1:=CK hl.1.1;have h2:=CK hl.1.2;have h3:=CK hl.2;refine⟨.str s,by simp only[Rep];exact⟨by rw[h.1],h.2⟩,?_⟩;simp only[T.wt,Bl,CF];split
  ·omega
  ·have:(1:Int)*s.size<=(c2:Int)*s.size:=Int.mul_le_mul_of_nonneg_right (by omega) (by omega);omega
 | .pn,t,f,x,h,hl=>by
  cases t<;>simp only[RepC]at h;cases f<;>simp only[Gv,FV,Aq]at hl;have h1:=CK hl.1.1.1;subst h;exact⟨.nil,by simp only[Rep],by simp only[T.wt,Bl];omega⟩
 | .ar n,t,f,x,h,hl=>by
  cases t<;>simp only[RepC]at h;rename_i k c0 c1;cases f<;>simp only[Gv,FV]at hl;rename_i fe;cases fe<;>simp only[Gv,FV,Aq]at hl;have h1:=CK hl.1.2;have h2:=CK hl.2;obtain⟨a,cap,rfl,e1,e2,e3⟩:=h;have hnn:(1:Int)*n<=(c1:Int)*n:=Int.mul_le_mul_of_nonneg_right (by omega) (by omega);by_cases hn:n=0
  ·subst hn;refine⟨.list [],by simp only[Rep];exact .inl ⟨⟨_,_,rfl⟩,trivial⟩,?_⟩;simp only[T.wt,Bf,Bl];omega
  ·rcases e3 with⟨_,e3⟩|⟨b,o,sz,rfl,e4,e5⟩
   ·omega
   ·have hA:=hw.hA b k sz e4;obtain⟨l,g1,g2,g3⟩:=ZY (w:=w) (S:=S) (k:=0) hA hl.1.1 n o (by omega);obtain⟨c,t',i1,_⟩:=hA;refine⟨.list l,?_,by simp only[T.wt,Bl];omega⟩;simp only[Rep];exact .inr ⟨b,o,cap,by rw[g2],hSA b _ e4,(FG.1 i1).1,by omega,e2,g1⟩
 | .pt r,t,f,x,h,hl=>by
  cases t<;>simp only[RepC]at h;rename_i e c0 c1;cases f<;>simp only[Gv,FV,Aq,decide_eq_true_eq]at hl;rename_i f;obtain⟨⟨⟨l1,l2⟩,hg⟩,rfl⟩:=hl;have l2:=CK l2;obtain⟨b,o,rfl,hR⟩:=h;have hk:=hK e hg;simp only[Kl,Aq,A_]at hk;obtain⟨cs,n,g1,g2,g3,g4⟩:=SE hw hS hSA hK r (Tb e).cells _ b o hR hk.1.1.1;obtain⟨u1,d,u2,u3⟩:=QS 6 (K e) cs n hk.1.1.2 g3;have hb:=CK hk.1.2;obtain⟨x0,hx0⟩:∃x,cs[0]? =some x:=⟨_,Bm (by omega)⟩;have hc0:=g1 0 x0 hx0;have hpos:=hk.2;refine⟨.ptr d,?_,?_⟩
  ·simp only[Rep];refine⟨b,o,cs,rfl,?_,SU hc0,g1,u1,u2⟩;cases r with
   |nil=>
    cases hcs:(Tb e).cells with
    |nil=>rw[hcs]at hpos;simp at hpos
    |cons a l=>rw[hcs]at hR;simp only[RepR]at hR
   |cons c r=>
    cases hcs:(Tb e).cells with
    |nil=>rw[hcs]at hpos;simp at hpos
    |cons a l=>
     rw[hcs]at hR;simp only[RepR]at hR;obtain⟨⟨y,hy,_⟩,_⟩:=hR;exact hS b o y hy
  ·simp only[T.wt,Bl,LA];omega
 | .fz l,t,f,x,h,hl=>by
  cases t<;>simp only[RepC]at h;rename_i e c;cases f<;>simp only[Gv,FV,Aq,decide_eq_true_eq]at hl;rename_i f;obtain⟨⟨l1,hg⟩,rfl⟩:=hl;have l1:=CK l1;obtain⟨a,cap,rfl,h1,h2⟩:=h;rcases h2 with rfl|⟨b,o,rfl,h3,h4,h5⟩
  ·exact⟨.list [],by simp only[Rep];exact .inl ⟨⟨_,_,rfl⟩,trivial⟩,by simp only[T.wt,Bf,Bl,Az];omega⟩
  ·obtain⟨l',g1,g2,g3,g4⟩:=Ym hw hS hSA hK l e b o 0 h5 hg;refine⟨.list l',?_,by simp only[T.wt,Bl];omega⟩;simp only[Rep];cases l with
   |nil=>
    have:l'=[]:=E2 (by simpa using g2);exact .inl ⟨⟨_,_,rfl⟩,this⟩
   |cons r l=>
    have:=g4 (by simp);exact .inr ⟨b,o,cap,by rw[g2],this.1,this.2,by rw[g2];exact h3,h4,g1⟩
theorem SE(hw:WOK w M A)(hS:∀b o x,M b o=some x->S b)(hSA:∀b q,A b=some q->S b)(hK:∀e,good e=true->Kl Tb K good e=true):∀(r:List CV) (ts:List CT) (fs:List Ty) (b o:Nat),RepR Tb M A r ts b o->Lq K good ts fs=true->
 ∃cs n,At w b o cs/\cs.length=ts.length/\Leafs w S fs cs n/\(n:Int)<=CP Tb r ts+NR ts
 |[],ts,fs,b,o,h,hl=>by
  cases ts with
  |cons=>simp only[RepR]at h
  |nil=>
   cases fs with
   |cons=>simp[Lq]at hl
   |nil=>exact⟨[],0,λj v hj=>by simp at hj,rfl,rfl,by simp[CP,NR]⟩
 |c::r,ts,fs,b,o,h,hl=>by
  cases ts with
  |nil=>simp only[RepR]at h
  |cons t ts=>
   cases fs with
   |nil=>simp[Lq]at hl
   |cons f fs=>
    simp only[Lq,Aq]at hl;simp only[RepR]at h;obtain⟨⟨x,hx,hc⟩,hr⟩:=h;obtain⟨d,d1,d2⟩:=Yl hw hS hSA hK c t f x hc hl.1;obtain⟨cs,n,g1,g2,g3,g4⟩:=SE hw hS hSA hK r ts fs b (o+1) hr hl.2;refine⟨x::cs,d.wt+n,?_,by simp[g2],⟨d,n,d1,rfl,g3⟩,by simp only[CP,NR];omega⟩;intro j v hj;cases j with
    |zero=>simp at hj;subst hj;exact(hw.hM b o x hx).1
    |succ j=>
     simp at hj;have:=g1 j v hj;rwa[show o+1+j=o+(j+1)from by omega]at this
theorem Ym(hw:WOK w M A)(hS:∀b o x,M b o=some x->S b)(hSA:∀b q,A b=some q->S b)(hK:∀e,good e=true->Kl Tb K good e=true):∀(l:List (List CV)) (e b o j:Nat),RepL Tb M A l e b o j->good e=true->
 ∃l':List Go.Sx.T,Go.Sx.RepL w S (K e) l' b o/\l'.length=l.length/\(Bf l':Int)<=Az Tb l e/\(l≠[]->S b/\b<w.heap.size)
 |[],e,b,o,j,h,hg=>⟨[],by simp only[Go.Sx.RepL],rfl,by simp[Bf,Az],λh=>absurd rfl h⟩
 |r::l,e,b,o,j,h,hg=>by
  simp only[RepL]at h;have hk:=hK e hg;simp only[Kl,Aq,A_]at hk;have hb:=CK hk.1.2;have hpos:=hk.2;obtain⟨cs,n,g1,g2,g3,g4⟩:=SE hw hS hSA hK r (Tb e).cells _ b o h.1 hk.1.1.1;obtain⟨u1,d,u2,u3⟩:=QS 6 (K e) cs n hk.1.1.2 g3;obtain⟨l',i1,i2,i3,_⟩:=Ym hw hS hSA hK l e b _ _ h.2.2 hg;refine⟨d::l',?_,by simp[i2],by simp only[Bf,Az];omega,λ_=>?_⟩
  ·simp only[Go.Sx.RepL];exact⟨⟨cs,g1,u1,u2⟩,by rw[<-u1,g2];exact i1⟩
  ·obtain⟨x0,hx0⟩:∃x,cs[0]? =some x:=⟨_,Bm (by omega)⟩;refine⟨?_,SU (g1 0 x0 hx0)⟩;have hR:=h.1;cases r with
   |nil=>
    cases hcs:(Tb e).cells with
    |nil=>rw[hcs]at hpos;simp at hpos
    |cons a l=>rw[hcs]at hR;simp only[RepR]at hR
   |cons c r=>
    cases hcs:(Tb e).cells with
    |nil=>rw[hcs]at hpos;simp at hpos
    |cons a l=>
     rw[hcs]at hR;simp only[RepR]at hR;obtain⟨⟨y,hy,_⟩,_⟩:=hR;exact hS b o y hy
end
end
def No:Nat->Ty
 |2=>.st .expr
 |4=>.st .part
 |7=>.st .instr
 |8=>.st .sort
 |9=>.st .param
 |10=>.st .source
 |11=>.st .ctch
 |12=>.st .rule
 |13=>.st .swap
 |14=>.st .sheet
 |15=>.st .use
 |16=>.st .template
 |17=>.st .dfn
 |18=>.st .global
 |19=>.st .key
 |20=>.st .accum
 |21=>.st .mode
 |22=>.st .output
 |23=>.st .charMap
 |_=>.str
def Nn(e:Nat):Bool:=[0,1,2,4,7,8,9,10,11,12,13,14,15,16,17,18,19,20,21,22,23].any (Nat.beq e)
theorem kinds(e:Nat)(h:Nn e=true):Kl eT No Nn e=true:=by
 have key:([0,1,2,4,7,8,9,10,11,12,13,14,15,16,17,18,19,20,21,22,23].all λe=>Kl eT No Nn e)=true:=by kernel_rfl
 simp only[Bg]at key;simp only[Nn,Md]at h;obtain⟨x,h1,h2⟩:=h;rw[AH h2];exact key x h1
def EX(w:World):AT:=λb o=>match w.cell? ⟨b,o,none⟩with
 |some x=>match x.oneCell' with
  |true=>some x
  |false=>none
 |none=>none
def Gx:AV:=λ_=>none
theorem VI{b o:Nat}(h:EX w b o=some x):w.cell? ⟨b,o,none⟩=some x/\x.oneCell'=true:=by
 unfold EX at h;split at h
 ·rename_i y hy;split at h
  ·rename_i h1;cases h;exact⟨hy,h1⟩
  ·cases h
 ·cases h
theorem VH(w:World):WOK w (EX w) Gx:=
 ⟨λ_ _ _ h=>⟨(VI h).1,rfl,(VI h).2⟩,λ_ _ _ h=>by cases h⟩
theorem Ri{w':World}{M M':AT}{A':AV}{pats:List A7}(h:FraM (Eo none (B8 pats [none])) w M Gx w' M' A')(hp:B8 pats [none]=[]):Fr K0 w K0 w':=
 ⟨h.os,h.tape,h.output,h.size,λb hb _=>h.blk b hb (by rw[hp];intro ht;rcases ht with ht|ht<;>simp at ht) rfl,λ_ h=>h.elim⟩
structure Evs(w:World)(v:Value)(L:List (List CV)):Prop where
 len:L.length<=maxLen
 rep:∃a cap,v= .slice a L.length cap/\(L=[]\/∃b o,a=some ⟨b,o,none⟩/\L.length<=cap/\cap<=maxLen/\RepL eT (EX w) Gx L 24 b o 0)
variable{L:List (List CV)}{v:Value}
theorem Evs.pv(h:Evs w v L):PV eT w (EX w) Gx (.fz 24) v (Cd eT 24 L) none:=by
 obtain⟨a,cap,rfl,h2⟩:=h.rep;rcases h2 with rfl|⟨b,o,rfl,h3,h4,h5⟩
 ·exact⟨⟨24,[],0,0⟩,rfl,⟨_,_,rfl,AW _,.inl V⟩,rfl⟩
 ·exact⟨⟨24,L,b,o⟩,rfl,⟨_,_,rfl,h.len,.inr ⟨rfl,h3,h4,h5⟩⟩,rfl⟩
theorem Evs.keep{w':World}(h:Evs w v L)(f:Fr K0 w K0 w'):Evs w' v L:=by
 obtain⟨a,cap,h1,h2⟩:=h.rep;refine⟨h.len,a,cap,h1,h2.imp id ?_⟩;rintro⟨b,o,h3,h4,h5,h6⟩;refine⟨b,o,h3,h4,h5,RepL.mono (λc p x hx=>?_) (λ_ _ h=>h) _ _ _ _ _ h6⟩;obtain⟨e1,e2⟩:=VI hx;have:w'.cell? ⟨c,p,none⟩=some x:=by
  rw[GM (f.blk c (SU e1) (λh=>h))];exact e1
 simp[EX,this,e2]
theorem light_ok(h:Evs w v L):
 Calls prog 24 [v].toArray w (Go.Sx.End (λr w'=>(∃b,r= .bool b/\(b=true->Az eT L 24<=60000000000))/\Fr K0 w K0 w') λ_ _=>False):=by
 by_cases hl:L.length<=400
 ·have hc:=Sh 24 _ (show c24[0]'(by decide)∈con 24 from E4) w (EX w) Gx [v] [Cd eT 24 L] none [] [[v]] [none]
   ⟨VH w,⟨⟨V,trivial⟩,rfl,rfl⟩,⟨h.pv,trivial⟩,(by show D5 [none];simp[D5]),by
    intro t ht;simp only[c24,EK,Oz,Ao,AB,or_false]at ht;subst ht;simp[Tm.den,Cd];omega⟩ trivial
  refine hc.mono ?_;intro e w' he;cases e with
  |panicked ch=>exact he.elim
  |outgrown=>exact he.elim
  |returned r=>
   obtain⟨post,hp,M',A',Y,Z,rcs',css',ros,hP⟩:=he;have hf:=Ri hP.fra rfl;simp only[c24,EK,Oz,Ao,AB,or_false]at hp;rcases hp with rfl|rfl
   ·obtain⟨c,rfl,hc⟩:=hP.res;have hc:c=[r]:=hc;subst hc;obtain⟨s,o,rfl,rfl,e1,e2⟩:=PVs.one hP.vals;have hm:=hP.facts _ (by simp only[Ao];exact .inl V);obtain⟨rfl,_⟩:=hP.mem;simp[Tm.den,Cd]at hm;exact⟨⟨true,e2,λ_=>by omega⟩,hf⟩
   ·obtain⟨c,rfl,hc⟩:=hP.res;have hc:c=[r]:=hc;subst hc;obtain⟨s,o,rfl,rfl,e1,e2⟩:=PVs.one hP.vals;exact⟨⟨false,e2,λh=>by cases h⟩,hf⟩
 ·have hc:=Sh 24 _ (show c24[1]'(by decide)∈con 24 from Ft _ E4) w (EX w) Gx [v] [Cd eT 24 L] none [] [[v]] [none]
   ⟨VH w,⟨⟨V,trivial⟩,rfl,rfl⟩,⟨h.pv,trivial⟩,(by show D5 [none];simp[D5]),by
    intro t ht;simp only[c24,EK,Oz,Ao,AB,or_false]at ht;subst ht;simp[Tm.den,Cd];omega⟩ trivial
  refine hc.mono ?_;intro e w' he;cases e with
  |panicked ch=>exact he.elim
  |outgrown=>exact he.elim
  |returned r=>
   obtain⟨post,hp,M',A',Y,Z,rcs',css',ros,hP⟩:=he;have hf:=Ri hP.fra rfl;simp only[c24,EK,Oz,Ao,AB,or_false]at hp;subst hp;obtain⟨c,rfl,hc⟩:=hP.res;have hc:c=[r]:=hc;subst hc;obtain⟨s,o,rfl,rfl,e1,e2⟩:=PVs.one hP.vals;exact⟨⟨false,e2,λh=>by cases h⟩,hf⟩
theorem Ara{T:Ar}{M:AT}{A:AV}{u:LV}(h:ListAt T M A u x):RepC T M A (.fz u.l) (.fz u.e 1) x:=by
 obtain⟨a,cap,rfl,h1,h2⟩:=h;simp only[RepC];refine⟨a,cap,rfl,h1,h2.imp id ?_⟩;rintro⟨rfl,h3,h4,h5⟩;exact⟨_,_,rfl,h3,h4,h5⟩
theorem Ad_{l:List A7}{ps:List PA}{xs:List Value}{css:List (List Value)}(h:PAVs (.agg l::ps) xs css):∃cs xs' css',xs= .agg cs.toArray::xs'/\css=cs::css'/\cs.length=l.length/\PAVs ps xs' css':=by
 cases xs with
 |nil=>cases css<;>simp[PAVs]at h
 |cons x xs=>
  cases css with
  |nil=>simp[PAVs]at h
  |cons c css=>
   obtain⟨⟨h1,h2⟩,h3⟩:=h;exact⟨c,xs,css,by rw[h1],rfl,h2,h3⟩
theorem parse_ok(h:Evs w v L)(hm:Az eT L 24<=60000000000):
 Calls prog 25 [v].toArray w (Go.Sx.End (λr w'=>(∃cs a b e,r= .tuple #[.agg cs.toArray,.int .i64 a,.int .i64 b,.int .i64 e]/\∃t,Rep w' (λ_=>True) t (.st .sheet) cs/\t.wt<=60000003000)/\Fr K0 w K0 w') λ_ _=>False):=by
 have hc:=Sh 25 _ (show c25[0]'(by decide)∈con 25 from E4) w (EX w) Gx [v] [Cd eT 24 L] none [] [[v]] [none]
  ⟨VH w,⟨⟨V,trivial⟩,rfl,rfl⟩,⟨h.pv,trivial⟩,(by show D5 [none];simp[D5]),by
   intro t ht;simp only[c25,EK,Ao,AB,or_false]at ht;subst ht;simp[Tm.den,Cd];omega⟩ trivial
 refine hc.mono ?_;intro e w' he;cases e with
 |panicked ch=>exact he.elim
 |outgrown=>exact he.elim
 |returned r=>
  obtain⟨post,hp,M',A',Y,Z,rcs',css',ros,hP⟩:=he;have hf:=Ri hP.fra rfl;simp only[c25,EK,Ao,AB,or_false]at hp;subst hp;have hfact:=hP.facts _ (by simp only[Ao];exact .inl V);obtain⟨rfl,_⟩:=hP.mem;obtain⟨xs,rfl,hpa⟩:∃xs:List Value,r= .tuple xs.toArray/\PAVs _ xs css':=hP.res;obtain⟨cs,xs1,css1,rfl,rfl,hlen,hpa1⟩:=Ad_ hpa;obtain⟨x1,xs2,css2,rfl,rfl,hpa2⟩:=PAVs.cons1 hpa1;obtain⟨x2,xs3,css3,rfl,rfl,hpa3⟩:=PAVs.cons1 hpa2;obtain⟨x3,xs4,css4,rfl,rfl,hpa4⟩:=PAVs.cons1 hpa3;obtain⟨rfl,rfl⟩:=PAVs.nil hpa4;have vals:PVs eT w' M' A' [.str,.fz 15,.fz 16,.fz 17,.fz 18,.fz 19,.fz 20,.fz 21,.fz 22,.fz 23,.int .i64,.int .i64,.int .i64] (cs++[x1,x2,x3]) Y ros:=hP.vals;obtain⟨y0,ys0,s0,S0,o0,os0,e0,rfl,rfl,p0,v0⟩:=PVs.cons1 vals;obtain⟨y1,ys1,s1,S1,o1,os1,rfl,rfl,rfl,p1,v1⟩:=PVs.cons1 v0;obtain⟨y2,ys2,s2,S2,o2,os2,rfl,rfl,rfl,p2,v2⟩:=PVs.cons1 v1;obtain⟨y3,ys3,s3,S3,o3,os3,rfl,rfl,rfl,p3,v3⟩:=PVs.cons1 v2;obtain⟨y4,ys4,s4,S4,o4,os4,rfl,rfl,rfl,p4,v4⟩:=PVs.cons1 v3;obtain⟨y5,ys5,s5,S5,o5,os5,rfl,rfl,rfl,p5,v5⟩:=PVs.cons1 v4;obtain⟨y6,ys6,s6,S6,o6,os6,rfl,rfl,rfl,p6,v6⟩:=PVs.cons1 v5;obtain⟨y7,ys7,s7,S7,o7,os7,rfl,rfl,rfl,p7,v7⟩:=PVs.cons1 v6;obtain⟨y8,ys8,s8,S8,o8,os8,rfl,rfl,rfl,p8,v8⟩:=PVs.cons1 v7;obtain⟨y9,ys9,s9,S9,o9,os9,rfl,rfl,rfl,p9,v9⟩:=PVs.cons1 v8;obtain⟨y10,ys10,s10,S10,o10,os10,rfl,rfl,rfl,p10,Ep⟩:=PVs.cons1 v9;obtain⟨y11,ys11,s11,S11,o11,os11,rfl,rfl,rfl,p11,CJ⟩:=PVs.cons1 Ep;obtain⟨y12,ys12,s12,S12,o12,os12,rfl,rfl,rfl,p12,DZ⟩:=PVs.cons1 CJ;obtain⟨rfl,rfl,rfl⟩:=PVs.nil DZ;have hcs:cs=[y0,y1,y2,y3,y4,y5,y6,y7,y8,y9]:=by
   have:=congrArg (List.take 10) e0;simpa[List.take_append,show cs.length=10 from hlen]using this
  subst hcs;simp only[CL,Dh,List.cons.injEq,true_and,Gc]at e0;obtain⟨rfl,rfl,rfl⟩:=e0;obtain⟨hs0,nm,rfl,hn1,hn2⟩:=p0;obtain⟨u1,hu1,hl1,rfl⟩:=p1;obtain⟨u2,hu2,hl2,rfl⟩:=p2;obtain⟨u3,hu3,hl3,rfl⟩:=p3;obtain⟨u4,hu4,hl4,rfl⟩:=p4;obtain⟨u5,hu5,hl5,rfl⟩:=p5;obtain⟨u6,hu6,hl6,rfl⟩:=p6;obtain⟨u7,hu7,hl7,rfl⟩:=p7;obtain⟨u8,hu8,hl8,rfl⟩:=p8;obtain⟨u9,hu9,hl9,rfl⟩:=p9;obtain⟨_,rfl,_⟩:=p10;obtain⟨_,rfl,_⟩:=p11;obtain⟨_,rfl,_⟩:=p12;have br:=λ(e:Nat) (u:LV) (x:Value) (hu:u.e=e) (hg:Gv No Nn (.fz e 1) (.list (No e))=true) (hl:ListAt eT M' A' u x)=>Yl (S:=λ_=>True) hP.wok (λ_ _ _ _=>trivial) (λ_ _ _=>trivial) kinds (.fz u.l) (.fz e 1) (.list (No e)) x (by have:=Ara hl;rw[hu]at this;exact this) hg;obtain⟨d1,r1,b1⟩:=br 15 u1 y1 hu1 rfl hl1;obtain⟨d2,r2,b2⟩:=br 16 u2 y2 hu2 rfl hl2;obtain⟨d3,r3,b3⟩:=br 17 u3 y3 hu3 rfl hl3;obtain⟨d4,r4,b4⟩:=br 18 u4 y4 hu4 rfl hl4;obtain⟨d5,r5,b5⟩:=br 19 u5 y5 hu5 rfl hl5;obtain⟨d6,r6,b6⟩:=br 20 u6 y6 hu6 rfl hl6;obtain⟨d7,r7,b7⟩:=br 21 u7 y7 hu7 rfl hl7;obtain⟨d8,r8,b8⟩:=br 22 u8 y8 hu8 rfl hl8;obtain⟨d9,r9,b9⟩:=br 23 u9 y9 hu9 rfl hl9;have hleaf:Leafs w' (λ_=>True) (Li 6 (.st .sheet)) [.string nm,y1,y2,y3,y4,y5,y6,y7,y8,y9] ((Go.Sx.T.str nm).wt+(d1.wt+(d2.wt+(d3.wt+(d4.wt+(d5.wt+(d6.wt+(d7.wt+(d8.wt+(d9.wt+(0))))))))))):=⟨.str nm,_,by simp only[Rep];exact⟨trivial,hn2⟩,rfl,⟨d1,_,r1,rfl,⟨d2,_,r2,rfl,⟨d3,_,r3,rfl,⟨d4,_,r4,rfl,⟨d5,_,r5,rfl,⟨d6,_,r6,rfl,⟨d7,_,r7,rfl,⟨d8,_,r8,rfl,⟨d9,_,r9,rfl,rfl⟩⟩⟩⟩⟩⟩⟩⟩⟩⟩;obtain⟨_,t,ht1,ht2⟩:=QS 6 (.st .sheet) _ _ rfl hleaf;refine⟨⟨_,_,_,_,rfl,t,ht1,?_⟩,hf⟩;have hns:Jy 6 (.st .sheet)=1:=rfl;simp only[Bl,LA,T.wt]at b1 b2 b3 b4 b5 b6 b7 b8 b9;simp[Tm.den,Cd]at hfact;rw[hns]at ht2;simp only[T.wt]at ht2;omega
end Go.Ck