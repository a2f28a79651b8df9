import Derived.Test.YtdldhfocpandoaaGreatStA
import Derived.Laws.MakeOwn
import Derived.Test.YtdldhfocpandoaaGreatCkB
import Derived.Laws.IdiomStrings
import Derived.Test.YtdldhfocpandoaaGreatStN
noncomputable section
set_option maxHeartbeats 8000000
set_option maxRecDepth 8000
namespace Go.Sx
set_option exponentiation.threshold 2000
def Bw:Nat:=1000000000
def CE:List Nat->Nat
 |[]=>0
 |x::l=>x+Bw*CE l
def EW(l:List Nat):Prop:=∀x∈l,x<Bw
theorem N1:∀(l:List Nat) (x:Nat),CE (l++[x])=CE l+Bw ^ l.length*x
 |[],x=>by simp[CE]
 |y::l,x=>by
  simp only[CL,CE,N1 l x,Cg,IK];rw[Mm,<-HT,HU Bw (Bw ^ l.length),Fe]
variable{x:Nat}
theorem Aak{l:List Nat}(h:EW l)(hx:x<Bw):EW (l++[x]):=by
 intro y hy;rcases B3.1 hy with hy|hy
 ·exact h y hy
 ·simp at hy;omega
structure TI(a:List Nat)(by' m0 i:Nat)(out:List Nat)(more:Nat):Prop where
 lim:EW out
 len:out.length=i
 lt:more<Bw
 val:CE out+Bw ^ i*more=CE (a.take i)*by'+m0
variable{m0 b:Nat}{a:List Nat}
theorem TI.start(h:m0<Bw):TI a b m0 0 [] m0:=⟨λx hx=>by simp at hx,rfl,h,by simp[CE]⟩
variable{i more:Nat}{out:List Nat}
theorem TI.small(h:TI a b m0 i out more)(hx:x<Bw)(hb:b<=Bw):more+x*b<Bw*Bw:=by
 have h1:=h.lt;have h2:x*b<=(Bw-1)*Bw:=JI (by omega) hb;simp only[Bw]at*;omega
theorem TI.step(h:TI a b m0 i out more)(hi:a[i]? =some x)(hx:x<Bw)(hb:b<=Bw):
 TI a b m0 (i+1) (out++[(more+x*b)%Bw]) ((more+x*b)/Bw):=by
 have hs:=h.small hx hb;refine⟨Aak h.lim (Fv _ (by decide)),by simp[h.len],Nat.div_lt_of_lt_mul hs,?_⟩;have hil:i<a.length:=(C3.1 hi).1;have ht:a.take (i+1)=a.take i++[x]:=by rw[KE,hi];simp
 have hl:(a.take i).length=i:=by rw[HO];omega
 have hv:=h.val;rw[N1,ht,N1,hl,h.len,Dq,IK];have e1:Bw ^ i*Bw*((more+x*b)/Bw)=Bw ^ i*(Bw*((more+x*b)/Bw)):=HT _ _ _;have e2:Bw ^ i*((more+x*b)%Bw)+Bw ^ i*(Bw*((more+x*b)/Bw))=Bw ^ i*(more+x*b):=by
  rw[<-Mm,Nat.mod_add_div]
 rw[Mm]at e2;have e3:Bw ^ i*x*b=Bw ^ i*(x*b):=HT _ _ _;omega
theorem TI.last(h:TI a b m0 a.length out more):CE (out++[more%Bw])=CE a*b+m0/\EW (out++[more%Bw])/\more/Bw=0:=by
 have h1:=h.lt;refine⟨?_,Aak h.lim (Fv _ (by decide)),Nat.div_eq_of_lt h1⟩;have:=h.val;rw[E5]at this;rw[N1,h.len,II h1];exact this
theorem TI.none(h:TI a b m0 a.length out 0):CE out=CE a*b+m0:=by
 have:=h.val;rw[E5]at this;simpa using this
def Dl(l:List UInt8):Nat:=l.foldl (λv c=>10*v+(c.toNat-48)) 0
def IX(l:List UInt8):Prop:=∀c∈l,48<=c.toNat/\c.toNat<=57
theorem YP(l:List UInt8)(c:UInt8):Dl (l++[c])=10*Dl l+(c.toNat-48):=by simp[Dl]
theorem Tj:∀(l:List UInt8) (v:Nat),l.foldl (λv (c:UInt8)=>10*v+(c.toNat-48)) v=v*10 ^ l.length+Dl l
 |[],v=>by simp[Dl]
 |c::l,v=>by
  simp only[List.foldl_cons,Dl];rw[Tj l,Tj l (10*0+(c.toNat-48)),Cg,IK];simp only[Dq,Nat.mul_zero,BO];have:10*v*10 ^ l.length=v*(10 ^ l.length*10):=by rw[HU 10 v,HT,HU 10]
  omega
theorem Pq(c:UInt8)(l:List UInt8):Dl (c::l)=(c.toNat-48)*10 ^ l.length+Dl l:=by
 have:=Tj l (10*0+(c.toNat-48));simp only[Dl,List.foldl_cons]at this⊢;rw[this];simp[Dl]
def D3:List UInt8->List UInt8
 |c::l=>if c=48 then D3 l else c::l
 |[]=>[]
theorem QE:∀(l:List UInt8),Dl (D3 l)=Dl l
 |[]=>rfl
 |c::l=>by
  unfold D3;split
  ·rename_i h;rw[QE l,Pq,h];simp
  ·rfl
theorem WD:∀(l:List UInt8),(D3 l).length<=l.length
 |[]=>Ay _
 |c::l=>by
  unfold D3;split
  ·have:=WD l;simp only[Cg];omega
  ·exact Ay _
theorem WB:∀{l:List UInt8},IX l->IX (D3 l)
 |[],h=>h
 |c::l,h=>by
  unfold D3;split
  ·exact WB λx hx=>h x (by simp[hx])
  ·exact h
theorem WC:∀(l:List UInt8),D3 l=[]\/∃c t,D3 l=c::t/\c≠48
 |[]=>.inl rfl
 |c::l=>by
  unfold D3;split
  ·exact WC l
  ·rename_i h;exact .inr ⟨c,l,rfl,h⟩
variable{l:List UInt8}
theorem Ac1(h:0<Dl l):0<(D3 l).length:=by
 rcases WC l with h1|⟨c,t,h1,_⟩
 ·have:=QE l;rw[h1]at this;simp[Dl]at this;simp only[Dl]at h;omega
 ·rw[h1];simp
variable{k:Nat}
theorem Ac2(hd:IX l)(h:Dl l<10 ^ k):(D3 l).length<=k:=by
 rcases WC l with h1|⟨c,t,h1,h2⟩
 ·rw[h1];simp
 ·have h3:=QE l;have h4:=WB hd c (by rw[h1];simp);have h5:c.toNat≠48:=λe=>h2 (UInt8.toNat_inj.1 e);rw[h1,Pq]at h3;have h6:1*10 ^ t.length<=(c.toNat-48)*10 ^ t.length:=EL _ (by omega);have h7:10 ^ t.length<10 ^ k:=by omega
  have h8:=(Nat.pow_lt_pow_iff_right (by decide:1<10)).1 h7;rw[h1];simp only[Cg];omega
def DW(n:Nat):UInt8:=UInt8.ofNat (48+n%10)
theorem MH(n:Nat):(DW n).toNat=48+n%10:=by
 have:n%10<10:=Fv _ (by decide);simp only[DW,UInt8.toNat_ofNat'];omega
theorem Ti(n:Nat):48<=(DW n).toNat/\(DW n).toNat<=57:=by
 have:n%10<10:=Fv _ (by decide);rw[MH];omega
structure GI(a:List Nat)(i k y:Nat)(out:List UInt8):Prop where
 dec:IX out
 len:out.length=9*i+k
 val:Dl out=CE (a.take i)+Bw ^ i*(y%10 ^ k)
theorem Arw(i:Nat):Bw ^ i=10 ^ (9*i):=by rw[Nat.pow_mul];rfl
theorem GI.step{y:Nat}{out:List UInt8}(h:GI a i k y out):GI a i (k+1) y (DW (y/10 ^ k)::out):=by
 refine⟨?_,by simp[h.len];omega,?_⟩
 ·intro c hc;rcases Ao.1 hc with rfl|hc
  ·exact Ti _
  ·exact h.dec c hc
 ·rw[Pq,MH,h.len,h.val,Nat.pow_add,<-Arw,Nat.mod_pow_succ];have e1:48+y/10 ^ k%10-48=y/10 ^ k%10:=by omega
  rw[e1,Mm];have e2:y/10 ^ k%10*(Bw ^ i*10 ^ k)=Bw ^ i*(10 ^ k*(y/10 ^ k%10)):=by
   rw[HU,HT]
  omega
theorem GI.next{y:Nat}{out:List UInt8}(h:GI a i 9 y out)(hi:a[i]? =some y)(hy:y<Bw)(z:Nat):GI a (i+1) 0 z out:=by
 refine⟨h.dec,by have:=h.len;omega,?_⟩;have hil:i<a.length:=(C3.1 hi).1;have ht:a.take (i+1)=a.take i++[y]:=by rw[KE,hi];simp
 have hl:(a.take i).length=i:=by rw[HO];omega
 have h9:y%10 ^ 9=y:=II hy;rw[h.val,ht,N1,hl,h9];simp[Ml]
theorem GI.start(a:List Nat)(y:Nat):GI a 0 0 y []:=⟨λc hc=>by simp at hc,rfl,by simp[Dl,CE,Ml]⟩
def EM(n:Nat):List UInt8:=if h:n<10 then D3 [DW n]else EM (n/10)++[DW n]
termination_by n
decreasing_by omega
theorem Amp(n:Nat):Dl (EM n)=n:=by
 induction n using Nat.strongRecOn with
 |_ n ih=>
  rw[EM];split
  ·rename_i h;rw[QE,Pq,MH];simp[Dl];omega
  ·rw[YP,ih (n/10) (by omega),MH];omega
theorem Amo(n:Nat):IX (EM n):=by
 induction n using Nat.strongRecOn with
 |_ n ih=>
  rw[EM];split
  ·exact WB λc hc=>by simp at hc;rw[hc];exact Ti n
  ·intro c hc;rcases B3.1 hc with hc|hc
   ·exact ih (n/10) (by omega) c hc
   ·simp at hc;rw[hc];exact Ti n
theorem Pk:∀(k n:Nat),n<10 ^ (k+1)->(EM n).length<=k+1
 |k,n,h=>by
  rw[EM];split
  ·have:=WD [DW n];simp only[Cg,DS]at this;omega
  ·cases k with
   |zero=>simp at h;omega
   |succ k=>
    have h2:n/10<10 ^ (k+1):=by
     rw[IK]at h;omega
    have:=Pk k (n/10) h2;simp only[Bh,Cg,DS];omega
variable{m:Nat}
theorem Anj(hm:m<2 ^ 53)(hk:k<=972):m*2 ^ k<10 ^ 800:=by
 have h1:m*2 ^ k<=2 ^ 53*2 ^ 972:=JI (by omega) (RJ (by decide) hk);have h2:2 ^ 53*2 ^ 972<10 ^ 800:=CK rfl;exact RH h1 h2
theorem Ani(hm:m<2 ^ 53)(hk:k<=1074):m*5 ^ k<10 ^ 800:=by
 have h1:m*5 ^ k<=2 ^ 53*5 ^ 1074:=JI (by omega) (RJ (by decide) hk);have h2:2 ^ 53*5 ^ 1074<10 ^ 800:=CK rfl;exact RH h1 h2
open Go.Proofs Go.Proofs.Tryz
def nv(n:Nat):Value:=.int .i64 (n:Int)
def K0:Nat->Prop:=λ_=>False
theorem ZS:(prog.info? 3).map (λi=>(i.zero,i.size,i.bytes))=some (some (.int .i64 0),1,8):=by kernel_rfl
section
variable{P:Program}{w w' w'':World}{t:TypeId}
theorem Ate{a:Nat}(h:a*b<9223372036854775808):(binOp .mul t (nv a) (nv b)).run P w= .ok (nv (a*b)) w:=by
 have:IntKind.i64.wrap ((a:Int)*(b:Int))=((a*b:Nat):Int):=by rw[<-Int.natCast_mul,CS (by unfold AP;omega)]
 simp[nv,binOp,Op.intArith,this]
theorem G3{a:Nat}(h:a+b<9223372036854775808):(binOp .add t (nv a) (nv b)).run P w= .ok (nv (a+b)) w:=by
 have:IntKind.i64.wrap ((a:Int)+(b:Int))=((a+b:Nat):Int):=by rw[<-Int.natCast_add,CS (by unfold AP;omega)]
 simp[nv,binOp,Op.intArith,this]
theorem NK{a:Nat}(hb:b≠0)(h:a<9223372036854775808):(binOp .quo t (nv a) (nv b)).run P w= .ok (nv (a/b)) w:=by
 have hle:a/b<=a:=RC _ _;have e:(a:Int).tdiv (b:Int)=((a/b:Nat):Int):=by rw[Xl (by omega)];rfl
 have h2:AP ((a/b:Nat):Int):=by
  generalize a/b=q at hle⊢;unfold AP;omega
 have hn:¬(b:Int)=0:=by omega
 simp only[nv,binOp,Op.intDiv,hn,if_false,e,CS h2];rfl
theorem NL{a:Nat}(hb:b≠0)(h:a<9223372036854775808):(binOp .rem t (nv a) (nv b)).run P w= .ok (nv (a%b)) w:=by
 have hle:a%b<=a:=Nat.mod_le _ _;have e:(a:Int).tmod (b:Int)=((a%b:Nat):Int):=by rw[Rp (by omega)];rfl
 have h2:AP ((a%b:Nat):Int):=by
  generalize a%b=q at hle⊢;unfold AP;omega
 have hn:¬(b:Int)=0:=by omega
 simp only[nv,binOp,Op.intDiv,hn,if_false,e,CS h2];rfl
theorem Kx{a:Nat}:(binOp .lss t (nv a) (nv b)).run P w= .ok (.bool (decide (a<b))) w:=CR (by congr 1;simp)
theorem Wt{a:Nat}:(binOp .gtr t (nv a) (nv b)).run P w= .ok (.bool (decide (b<a))) w:=D2 (by congr 1;simp)
def NumV(w:World)(v:Value)(l:List Nat):Prop:=w.ownsRow 0 3 1 v l.length (l.map nv)
theorem NumV.nil:NumV w (.slice none 0 0) []:=World.ownsRow_nil _ _ _ _
variable{v:Value}
theorem NumV.keep{O O':Nat->Prop}{l:List Nat}(h:NumV w v l)(f:Fr O w O' w')(hO:∀b,Aw v b->¬O b):NumV w' v l:=Cn h λb hb=>f.blk b (C8 h hb) (hO b hb)
theorem NumV.slice{l:List Nat}(h:NumV w v l):∃a cap,v= .slice a l.length cap:=by
 rcases h.2 with⟨rfl,h0⟩|⟨g,cap,cur,rfl,_⟩
 ·exact⟨none,0,by rw[h0]⟩
 ·exact⟨_,_,rfl⟩
theorem NumV.get{l:List Nat}(h:NumV w v l)(hi:l[i]? =some x):∃b cap,v= .slice (some ⟨b,0,none⟩) l.length cap/\w.cell? ⟨b,i,none⟩=some (nv x):=by
 have hil:i<l.length:=(C3.1 hi).1;rcases h.2 with⟨rfl,h0⟩|⟨g,cap,cur,rfl,_,hg,h1,h2,h3,h4⟩
 ·omega
 ·refine⟨g,cap,rfl,?_⟩;have:(l.map nv)[i]? =some (nv x):=by simp[hi]
  rw[<-h4,Ea,if_pos (by omega)]at this;simpa[World.cell?,hg]using this
theorem NumV.push{l:List Nat}(h:NumV w v l)(hl:l.length<2 ^ 40)(ty:TypeId):∃vb w2 v' w3,(Instr.buildSlice 262 1 #[(0,nv x)]).run prog w= .ok vb w2/\
 (Builtin.append_ #[262,262] ty #[v,vb]).run prog w2= .ok v' w3/\NumV w3 v' (l++[x])/\Fr (Aw v) w (Aw v') w3:=by
 obtain⟨i,hi,hz,hs1,hb⟩:=Jf ZS;have hrun:=G5 (P:=prog) (w:=w) (v:=nv x) underlying262 Bo zeroValue3 rfl rfl;have f2:Fr (Aw v) w (Aw v) (w.alloc (.cells [nv x].toArray 3)):=Fr.alloc _ _ _;have hb2:Blk (w.alloc (.cells [nv x].toArray 3)) w.heap.size [nv x] 3:=Cf;have hrow:(w.alloc (.cells [nv x].toArray 3)).ownsRow 0 3 1 v l.length (l.map nv):=L4 h _;generalize w.alloc (.cells [nv x].toArray 3)=w2 at*;have hsrc:=LB (P:=prog) (u:=262) (n:=1) (c:=1) underlying262 hb2 rfl (by simp[nv,Value.oneCell']);obtain⟨v',w3,h1,h2,h3,h4,_⟩:=OQ (P:=prog) (ty:=ty) (e:=3) (bytes:=8) (z:=.int .i64 0) underlying262 hi hz hs1 hb rfl hrow hsrc (by simp only[maxLen];omega) (by omega);refine⟨_,_,v',w3,hrun,h1,?_,f2.trans (Oq h3 h4)⟩;unfold NumV;simpa using h2
theorem Abb{v':Value}(f:Fr K0 w K0 w')(hn:∀x,Aw v x->w.heap.size<=x)(g:Fr (Aw v) w' (Aw v') w''):Fr K0 w K0 w''/\∀x,Aw v' x->w.heap.size<=x:=by
 refine⟨⟨g.os.trans f.os,g.tape.trans f.tape,g.output.trans f.output,AX f.size g.size,λb hb _=>?_,λ_ h=>h.elim⟩,λx hx=>?_⟩
 ·rw[g.blk b (BB hb f.size) (λho=>by have:=hn b ho;omega),f.blk b hb (λh=>h)]
 ·rcases g.own x hx with h|h
  ·exact hn x h
  ·exact AX f.size h
end
def Ad6(w:World)(n len:Nat)(r:Value)(w':World):Prop:=∃l,NumV w' r l/\EW l/\CE l=n/\l.length<=len/\Fr K0 w K0 w'/\∀x,Aw r x->w.heap.size<=x
def Ac6(va:Value)(b more:Nat)(vo:Value)(i:Nat):Env:=[(0,va),(1,nv b),(2,nv more),(7,vo),(8,nv i)]
variable{va:Value}{w:World}
theorem c373(hv:NumV w va a)(ha:EW a)(hl:a.length<2 ^ 30)(hb:b<=Bw)(hm:m<Bw):
 Calls prog 373 [va,nv b,nv m].toArray w (End (Ad6 w (CE a*b+m) (a.length+1)) λ_ _=>False):=by
 obtain⟨ga,ca,hva⟩:=hv.slice;refine AE 44 func373 V V V ?_;refine Ac (Ab (Ah V V (Ag ?_)));obtain⟨i3,hi3,hz3,hs3,hb3⟩:=Jf ZS;have hb8:i3.bytes=8:=hb3;obtain⟨w1,hmk,hrow,hgr⟩:=run_make_own (P:=prog) w 0 262 3 i3 (.int .i64 0) 1 underlying262 hi3 hz3 hs3 .i64 .i64 (a.length+1) (by rw[hb8];omega) (by simp only[maxLen];omega) (AW _);have hlen:(Builtin.len_ #[262] 3 #[va]).run prog w= .ok (nv a.length) w:=by rw[hva];exact AM underlying262
 refine Ac (Ab (Aa V V (AI V hlen V (Al V V (G3 (b:=1) (by omega)) V (CY (w':=w1) (v:=.slice (some ⟨w.heap.size,0,none⟩) 0 (a.length+1)) V V V (λA hA=>?_) (Ah V V (Ag ?_)))))))
 ·have:=hmk;simp only[execOp];rw[hA.eval (x:=.const (.int .i64 0)) rfl,hA.eval (x:=.tmp 11) rfl];simp only[Sem.run_bind];erw[this];rfl
 have f1:Fr K0 w K0 w1:=⟨hgr.os,hgr.tape,hgr.output,hgr.size,λx hx _=>hgr.block x hx (by simp),λ_ h=>h.elim⟩;have hown:∀x,Aw (.slice (some ⟨w.heap.size,0,none⟩) 0 (a.length+1)) x->w.heap.size<=x:=by
  intro x hx;have:w.heap.size=x:=by simpa[Aw,Value.ownBlock]using hx
  omega
 have hrow:NumV w1 (.slice (some ⟨w.heap.size,0,none⟩) 0 (a.length+1)) []:=hrow;refine CM (ι:=Nat×List Nat×Value) (λq=>[(2,nv q.1),(7,q.2.2)]) (λq w'=>TI a b m a.length q.2.1 q.1/\NumV w' q.2.2 q.2.1/\Fr K0 w K0 w'/\∀x,Aw q.2.2 x->w.heap.size<=x) ?_ ?_
 ·refine Ac (Ab (Ah V V (Aj (Ac6 va b m (.slice (some ⟨w.heap.size,0,none⟩) 0 (a.length+1)) 0) ⟨V,V,V,V,V,trivial⟩ ?_)));refine AF (BP (ι:=Nat×Nat×List Nat×Value) (λq=>Ac6 va b q.2.1 q.2.2.2 q.1) (λq w'=>q.1<=a.length/\TI a b m q.1 q.2.2.1 q.2.1/\NumV w' q.2.2.2 q.2.2.1/\Fr K0 w K0 w'/\∀x,Aw q.2.2.2 x->w.heap.size<=x) (λq=>a.length-q.1)
   (0,m,[],.slice (some ⟨w.heap.size,0,none⟩) 0 (a.length+1)) ⟨V,V,V,V,V,trivial⟩ ⟨AW _,TI.start hm,hrow,f1,hown⟩ ?_)
  rintro⟨i,more,out,vo⟩ w2 ⟨hi,hT,hN,f2,hn2⟩;simp only at hi hT hN f2 hn2⊢;have hlen2:(Builtin.len_ #[262] 3 #[va]).run prog w2= .ok (nv a.length) w2:=by rw[hva];exact AM underlying262
  have hva2:NumV w2 va a:=hv.keep f2 (λ_ _ h=>h);refine Ac (Ac (Ab (Aa V V (Aa V V (AI V hlen2 V (Al V V Kx V (Ag (AN V (λht=>AG λA hA=>Ak ?_) (λhf=>BC λA hA=>AD (AD (B_ (Ak ?_))))))))))))
  ·--one limb more
   have hlt:i<a.length:=B7 ht;obtain⟨x,hx⟩:∃x,a[i]? =some x:=⟨_,Bm hlt⟩;have hxb:=ha x (BA hx);obtain⟨g,cap,hg,hcell⟩:=hva2.get hx;have hs:=hT.small hxb hb;have hsm:more+x*b<9223372036854775808:=by
    have:Bw*Bw=1000000000000000000:=rfl;omega
   have hidx:(Instr.indexAt 262 va (nv i)).run prog w2= .ok (.pointer (some ⟨g,i,none⟩)) w2:=by
    rw[hg];have:=Dy (P:=prog) (w:=w2) (b:=g) (o:=0) (len:=a.length) (cap:=cap) (i:=(i:Int)) underlying262 Bo (by omega) (by omega);simpa[nv]using this
   refine A6 hA (Ac (AF ?_));refine Ac (Ab (Aa V V (Aa V V (Aa V V (AO V V hidx V (Ae V (Ai Bo hcell) V (Aa V V (Al V V (Ate (by omega)) V (Al V V (G3 hsm) V (Ah V V (Ag ?_)))))))))));have hol:out.length<2 ^ 40:=by have:=hT.len;omega
   obtain⟨vb,w3,vo',w4,hbs,happ,hN4,f4⟩:=hN.push (x:=(more+x*b)%Bw) hol 262;obtain⟨f5,hn5⟩:=Abb f2 hn2 f4;have hT':=hT.step hx hxb hb;refine Ac (Ab (Aa V V (Aa V V (Al V V (NL (b:=Bw) (by decide) hsm) V (BR V hbs V (CX V V happ V (Ah V V (Ag ?_))))))));refine Ab (Aa V V (Al V V (NK (b:=Bw) (by decide) hsm) V (Ah V V (A2 λA hA=>BK (Ak ?_)))));refine A6 hA (Ab (Aa V V (Al V V (G3 (b:=1) (by omega)) V (Ah V V (A2 λA hA=>Ak ?_)))));exact⟨(i+1,(more+x*b)/Bw,out++[(more+x*b)%Bw],vo'),hA.weak ⟨V,V,V,V,V,trivial⟩,⟨hlt,hT',hN4,f5,hn5⟩,by show a.length-(i+1)<a.length-i;omega⟩
  ·have hlt:¬i<a.length:=B2 hf;obtain rfl:i=a.length:=by omega
   exact⟨(more,out,vo),hA.weak ⟨V,V,trivial⟩,hT,hN,f2,hn2⟩
 ·rintro⟨more,out,vo⟩ w2 ⟨hT,hN,f2,hn2⟩;simp only at hT hN f2 hn2⊢;refine CM (ι:=List Nat×Value) (λq=>[(7,q.2)]) (λq w'=>EW q.1/\CE q.1=CE a*b+m/\q.1.length<=a.length+1/\NumV w' q.2 q.1/\Fr K0 w K0 w'/\∀x,Aw q.2 x->w.heap.size<=x) ?_ ?_
  ·refine AF (BP (ι:=Nat×List Nat×Value) (λq=>[(2,nv q.1),(7,q.2.2)]) (λq w'=>(TI a b m a.length q.2.1 q.1\/(q.1=0/\EW q.2.1/\CE q.2.1=CE a*b+m/\q.2.1.length<=a.length+1))/\NumV w' q.2.2 q.2.1/\Fr K0 w K0 w'/\∀x,Aw q.2.2 x->w.heap.size<=x) (λq=>q.1)
    (more,out,vo) ⟨V,V,trivial⟩ ⟨.inl hT,hN,f2,hn2⟩ ?_)
   clear hT hN f2 hn2;rintro⟨more,out,vo⟩ w2 ⟨hT,hN,f2,hn2⟩;simp only at hT hN f2 hn2⊢;refine Ac (Ac (Ab (Aa V V (Al V V (Wt (b:=0)) V (Ag (AN V (λht=>AG λA hA=>Ak ?_) (λhf=>BC λA hA=>AD (AD (B_ (Ak ?_))))))))))
   ·have hlt:0<more:=B7 ht;rcases hT with hT|⟨h0,_⟩;rotate_left
    ·omega
    have hmb:=hT.lt;have hsm:more<9223372036854775808:=by
     have:Bw=1000000000:=rfl;omega
    have hol:out.length<2 ^ 40:=by have:=hT.len;omega
    obtain⟨vb,w3,vo',w4,hbs,happ,hN4,f4⟩:=hN.push (x:=more%Bw) hol 262;obtain⟨f5,hn5⟩:=Abb f2 hn2 f4;obtain⟨l1,l2,l3⟩:=hT.last;refine A6 hA (AF (Ac (Ab (Aa V V (Aa V V (Al V V (NL (b:=Bw) (by decide) hsm) V (BR V hbs V (CX V V happ V (Ah V V (Ag ?_))))))))));refine Ab (Aa V V (Al V V (NK (b:=Bw) (by decide) hsm) V (Ah V V (A2 λA hA=>BK (Ak ?_)))));refine⟨(more/Bw,out++[more%Bw],vo'),hA.weak ⟨V,V,trivial⟩,⟨.inr ⟨l3,l2,l1,by simp only[Bh,Cg,DS,hT.len];omega⟩,hN4,f5,hn5⟩,?_⟩;show more/Bw<more;rw[l3];exact hlt
   ·have h0:more=0:=by have:=B2 hf;omega
    subst h0;refine⟨(out,vo),hA.weak ⟨V,trivial⟩,?_⟩;rcases hT with hT|⟨_,h1,h2,h3⟩
    ·exact⟨hT.lim,hT.none,by rw[hT.len];omega,hN,f2,hn2⟩
    ·exact⟨h1,h2,h3,hN,f2,hn2⟩
  ·rintro⟨l,v⟩ w3 ⟨h1,h2,h3,h4,h5,h6⟩;exact Ac (Ab (Aa V V (Ah V V (Ag (AJ λA hA=>Ch V hA V ⟨l,h4,h1,h2,h3,h5,h6⟩)))))
def R7(w:World)(n len:Nat)(r:Value)(w':World):Prop:=∃l,NumV w' r l/\EW l/\CE l=n/\l.length<=len/\Fr K0 w K0 w'
variable{n:Nat}
theorem c372(hv:NumV w va a)(ha:EW a)(hl:a.length+n<2 ^ 30)(hb:b<=Bw):
 Calls prog 372 [va,nv b,nv n].toArray w (End (R7 w (CE a*b ^ n) (a.length+n)) λ_ _=>False):=by
 refine AE 17 func372 V V V ?_;refine Ac (Ab (Ah V V (Ag ?_)));refine CM (ι:=List Nat×Value) (λq=>[(0,q.2)]) (λq w'=>EW q.1/\CE q.1=CE a*b ^ n/\q.1.length<=a.length+n/\NumV w' q.2 q.1/\Fr K0 w K0 w') ?_ ?_
 ·refine Ac (Ab (Ah V V (Aj [(0,va),(1,nv b),(2,nv n),(7,nv 0)] ⟨V,V,V,V,trivial⟩ ?_)));refine AF (BP (ι:=Nat×List Nat×Value) (λq=>[(0,q.2.2),(1,nv b),(2,nv n),(7,nv q.1)]) (λq w'=>q.1<=n/\EW q.2.1/\CE q.2.1=CE a*b ^ q.1/\q.2.1.length<=a.length+q.1/\NumV w' q.2.2 q.2.1/\Fr K0 w K0 w') (λq=>n-q.1)
   (0,a,va) ⟨V,V,V,V,trivial⟩ ⟨AW _,ha,by simp,Ay _,hv,Fr.refl _ _⟩ ?_)
  rintro⟨i,l,v⟩ w2 ⟨hi,h1,h2,h3,h4,f2⟩;simp only at hi h1 h2 h3 h4 f2⊢;refine Ac (Ac (Ab (Aa V V (Aa V V (Al V V Kx V (Ag (AN V (λht=>AG λA hA=>Ak ?_) (λhf=>BC λA hA=>AD (AD (B_ (Ak ?_)))))))))))
  ·have hlt:i<n:=B7 ht;refine A6 hA (Ac (AF (Ab (Aa V V (Aa V V (Af call373 V V (c373 (m:=0) h4 h1 (by omega) hb (by decide)) ?_ Am))))));rintro r w3 ⟨l',k1,k2,k3,k4,k5,_⟩;refine Ah V V (A2 λA hA=>BK (Ak ?_));refine A6 hA (Ab (Aa V V (Al V V (G3 (b:=1) (by omega)) V (Ah V V (A2 λA hA=>Ak ?_)))));refine⟨(i+1,l',r),hA.weak ⟨V,V,V,V,trivial⟩,⟨hlt,k2,?_,by show l'.length<=a.length+(i+1);omega,k1,f2.trans k5⟩,by show n-(i+1)<n-i;omega⟩;show CE l'=_;rw[k3,h2,IK,HT,Hf]
  ·have hlt:¬i<n:=B2 hf;obtain rfl:i=n:=by omega
   exact⟨(l,v),hA.weak ⟨V,trivial⟩,h1,h2,h3,h4,f2⟩
 ·rintro⟨l,v⟩ w3 ⟨h1,h2,h3,h4,h5⟩;exact Ac (Ab (Aa V V (Ah V V (Ag (AJ λA hA=>Ch V hA V ⟨l,h4,h1,h2,h3,h5⟩)))))
theorem c368(hv:NumV w va a)(ha:EW a)(hl:a.length+n<2 ^ 29):
 Calls prog 368 [va,nv n].toArray w (End (R7 w (CE a*2 ^ n) (a.length+n)) λ_ _=>False):=by
 have hdm:n=28*(n/28)+n%28:=(Nat.div_add_mod n 28).symm;refine AE 12 func368 V V V ?_;refine Ac (Ab (Ah V V (Ag ?_)));refine Ac (Ab (Aa V V (Aa V V (Al V V (NK (b:=28) (by decide) (by omega)) V (Af call372 V V (c372 (b:=268435456) hv ha (by omega) (by decide)) ?_ Am)))));rintro r w2 ⟨l,k1,k2,k3,k4,k5⟩;refine Aa V V (Al V V (NL (b:=28) (by decide) (by omega)) V (Af call372 V V (c372 (b:=2) k1 k2 (by omega) (by decide)) ?_ Am));rintro r3 w3 ⟨l3,m1,m2,m3,m4,m5⟩;refine Ah V V (Ag (AJ λA hA=>Ch V hA V ⟨l3,m1,m2,?_,by omega,k5.trans m5⟩));rw[m3,k3,HT];congr 1;rw[show(268435456:Nat)=2 ^ 28 from rfl,<-Nat.pow_mul,<-Nat.pow_add,<-hdm]
def sv(l:List UInt8):Value:=.string ⟨l.toArray⟩
section
variable{w:World}
theorem WH{ty:TypeId}(l:List UInt8):(Builtin.len_ #[9] ty #[sv l]).run prog w= .ok (nv l.length) w:=by
 unfold sv nv;rw[GR underlying9];simp[ByteArray.size]
variable{c:UInt8}
theorem Ac5(h:l[i]? =some c):(Instr.index 9 (sv l) (nv i)).run prog w= .ok (bv c) w:=by
 have hb:(⟨l.toArray⟩:ByteArray)[i]? =some c:=by
  have hi:=(C3.1 h);obtain⟨h1,h2⟩:=hi;have h3:i<(⟨l.toArray⟩:ByteArray).size:=by simpa[ByteArray.size]using h1
  rw[getElem?_pos (⟨l.toArray⟩:ByteArray) i h3];congr 1
 simp[Instr.index,asIntOf,run_underlying underlying9,sv,nv,bv,hb]
theorem Auz(hm:l.length<2 ^ 40):(Instr.sliceAt 9 (sv (c::l)) (some (nv 1)) none none).run prog w= .ok (sv l) w:=by
 have hbo:=λw=>Go.Ck.run_bounds (P:=prog) (isS:=false) (len:=l.length+1) (cap:=l.length+1) (lo:=some (nv 1)) (hi:=none) (l:=1) (h:=((l.length+1:Nat):Int)) ⟨.i64,rfl⟩ rfl (by omega) (by omega) (by omega) w;have he:((⟨(c::l).toArray⟩:ByteArray).extract 1 (l.length+1))=⟨l.toArray⟩:=by
  apply ByteArray.ext;simp[ByteArray.data_extract]
 have hsz:(⟨(c::l).toArray⟩:ByteArray).size=l.length+1:=by simp[ByteArray.size]
 unfold sv;generalize hS:(⟨(c::l).toArray⟩:ByteArray)=S at he hsz⊢;have hbo':=hbo;rw[<-hsz]at hbo';simp[Instr.sliceAt,Instr.slice,run_underlying underlying9,hbo',<-hsz]at he⊢;exact he
theorem Ac4{a b:List UInt8}(h:a.length+b.length<2 ^ 40){t:TypeId}:(binOp .add t (sv a) (sv b)).run prog w= .ok (sv (a++b)) w:=by
 have e:((⟨a.toArray⟩:ByteArray)++⟨b.toArray⟩)=⟨(a++b).toArray⟩:=by
  apply ByteArray.ext;simp[ByteArray.data_append]
 have hn:¬(((⟨a.toArray⟩:ByteArray).size+(⟨b.toArray⟩:ByteArray).size:Nat):Int)>IntKind.i64.max:=by
  have:IntKind.i64.max=9223372036854775807:=by decide
  simp only[ByteArray.size,GF];omega
 simp only[sv,binOp,Op.stringOp,if_neg hn,e];rfl
end
variable{v:Value}
theorem XA{P:Program}{ops:Array Oper}{Q:Exit->Act->World->Prop}{rest:List Oper}{ds:List Deferred}{m:Env}{d:Nat}{ty:TypeId}{pos:String}{aft:Array Edge}{t:TypeId}{x y:Operand}{vx vy:Value}
 (hx:ev m x=some vx) (hy:ev m y=some vy) (hr:(Instr.index t vx vy).run P w= .ok v w) (hb:Nat.blt d n=true)
 (h:WL P ops Q rest n ds ((d,v)::m) w):WL P ops Q (⟨some d,.index t x y,ty,pos,aft,none⟩::rest) n ds m w:=
 CY rfl rfl hb (λa ha=>by simp[execOp,ha.eval hx,ha.eval hy,hr]) h
theorem c358(hl:l.length<2 ^ 40):Calls prog 358 [sv l].toArray w (End (λr w'=>r=sv (D3 l)/\w'=w) λ_ _=>False):=by
 refine AE 14 func358 V V V ?_;refine Ac (Ab (Ah V V (Aj [(0,sv l)] ⟨V,trivial⟩ ?_)));refine CM (ι:=Unit) (λ_=>[(0,sv (D3 l))]) (λ_ w'=>w'=w) ?_ ?_
 ·refine AF (BP (ι:=List UInt8) (λq=>[(0,sv q)]) (λq w'=>D3 q=D3 l/\q.length<=l.length/\w'=w) (λq=>q.length) l ⟨V,trivial⟩ ⟨rfl,Ay _,rfl⟩ ?_);rintro q w2 ⟨h1,h2,rfl⟩;cases q with
  |nil=>
   refine Ac (Ac (Ab (Aa V V (AI V (WH _) V (Al V V (Wt (b:=0)) V (Aa V V ?_))))));refine Cz (j:=3) V V V V V (Cz (j:=3) V V V V V (Cz (j:=3) V V V V V (BW V V V (Ag ?_))));refine Fz V (BC λA hA=>AD (AD (B_ (Ak ?_))));exact⟨(),hA.weak ⟨by rw[<-h1];rfl,trivial⟩,rfl⟩
  |cons c t=>
   simp only[Cg]at h2;refine Ac (Ac (Ab (Aa V V (AI V (WH _) V (Al V V (Wt (b:=0)) V (Aa V V ?_))))));refine A9 (j:=3) V V V (Aa V V (A9 (j:=3) V V V (XA V V (Ac5 (i:=0) V) V (A9 (j:=3) V V V (Al V V (E0 (c:=decide (c=48)) ?_) V (BW V V V (Ag ?_)))))))
   ·refine BM.2 ⟨λh=>by rw[h];rfl,λh=>UInt8.toNat_inj.1 (by simpa using(by omega:c.toNat=48))⟩
   refine AN V (λht=>AG λA hA=>Ak ?_) (λhf=>BC λA hA=>AD (AD (B_ (Ak ?_))))
   ·have hc:c=48:=B7 ht;subst hc;refine A6 hA (AF (Ab (Aa V V (Ia V V V (Auz (by omega)) V (Ah V V (A2 λA hA=>BK (Ak ?_)))))));refine⟨t,hA.weak ⟨V,trivial⟩,⟨?_,by omega,rfl⟩,by show t.length<t.length+1;omega⟩;rw[<-h1];show D3 t=D3 ((48:UInt8)::t);rw[D3];rfl
   ·have hc:c≠48:=B2 hf;refine⟨(),hA.weak ⟨?_,trivial⟩,rfl⟩;show some (sv (c::t))=some (sv (D3 l));rw[<-h1,D3,if_neg hc]
 ·rintro _ w3 rfl;exact Ac (Ab (Aa V V (Ah V V (Ag (AJ λA hA=>Ch V hA V ⟨rfl,rfl⟩)))))
section
variable{w:World}
theorem Tg:(convert 3 5 (nv (48+n%10))).run prog w= .ok (bv (DW n)) w:=by
 have h:n%10<10:=Fv _ (by decide);have:=De (P:=prog) (w:=w) (s:=3) (t:=5) (k:=.u8) (k':=.i64) (n:=((48+n%10:Nat):Int)) runUnderlying3 runUnderlying5;rw[IA]at this;have e:((48+n%10:Nat):Int)%256=((DW n).toNat:Int):=by rw[MH];omega
 rw[e]at this;exact this
theorem M7(c:UInt8):(Instr.buildSlice 22 1 #[(0,bv c)]).run prog w= .ok (.slice (some ⟨w.heap.size,0,none⟩) 1 1) (w.alloc (.cells [bv c].toArray 5)):=Lt rfl
variable{c:UInt8}
theorem KX(h:Blk w b [bv c] 5):(convert 22 9 (.slice (some ⟨b,0,none⟩) 1 1)).run prog w= .ok (sv [c]) w:=by
 refine run_convert_bytes_back w 22 9 5 _ 1 [c] underlying22 underlying5 underlying9 (λj hj=>?_);rw[Addr.add_lit,h.cell];have:j=0:=by simp at hj;omega
 subst this;rfl
end
theorem c367(hd:IX l)(hl:l.length<2 ^ 20):Calls prog 367 [sv l].toArray w (End (R7 w (Dl l) l.length) λ_ _=>False):=by
 refine AE 19 func367 V V V ?_;refine Ac (Ab (Ah V V (Ag (Ac (Ab (Ah V V (Ag ?_)))))));refine CM (ι:=List Nat×Value) (λq=>[(3,q.2)]) (λq w'=>EW q.1/\CE q.1=Dl l/\q.1.length<=l.length/\NumV w' q.2 q.1/\Fr K0 w K0 w') ?_ ?_
 ·refine Ac (Ab (Ah V V (Aj [(0,sv l),(3,.slice none 0 0),(4,nv 0)] ⟨V,V,V,trivial⟩ ?_)));refine AF (BP (ι:=Nat×List Nat×Value) (λq=>[(0,sv l),(3,q.2.2),(4,nv q.1)]) (λq w'=>q.1<=l.length/\EW q.2.1/\CE q.2.1=Dl (l.take q.1)/\q.2.1.length<=q.1/\NumV w' q.2.2 q.2.1/\Fr K0 w K0 w') (λq=>l.length-q.1)
   (0,[],.slice none 0 0) ⟨V,V,V,trivial⟩ ⟨AW _,λx hx=>by simp at hx,rfl,Ay _,NumV.nil,Fr.refl _ _⟩ ?_)
  rintro⟨i,k,v⟩ w2 ⟨hi,h1,h2,h3,h4,f2⟩;simp only at hi h1 h2 h3 h4 f2⊢;refine Ac (Ac (Ab (Aa V V (Aa V V (AI V (WH _) V (Al V V Kx V (Ag (AN V (λht=>AG λA hA=>Ak ?_) (λhf=>BC λA hA=>AD (AD (B_ (Ak ?_))))))))))))
  ·have hlt:i<l.length:=B7 ht;obtain⟨c,hc⟩:∃c,l[i]? =some c:=⟨_,Bm hlt⟩;have hcd:=hd c (BA hc);have hsub:∀w:World,(binOp .sub 5 (bv c) (.int .u8 48)).run prog w= .ok (.int .u8 ((c.toNat-48:Nat):Int)) w:=λw=>by
    have e:IntKind.u8.wrap ((c.toNat:Int)-48)=((c.toNat-48:Nat):Int):=by rw[IA];omega
    simp[bv,binOp,Op.intArith,e]
   have hcv:∀w:World,(convert 5 3 (.int .u8 ((c.toNat-48:Nat):Int))).run prog w= .ok (nv (c.toNat-48)) w:=λw=>by
    have:=De (P:=prog) (w:=w) (s:=5) (t:=3) (k:=.i64) (k':=.u8) (n:=((c.toNat-48:Nat):Int)) runUnderlying5 runUnderlying3;rwa[CS (by unfold AP;omega)]at this
   refine A6 hA (Ac (AF (Ab (Aa V V (Aa V V (Aa V V (XA V V (Ac5 hc) V (Al V V (hsub _) V (BH V (hcv _) V (Af call373 V V (c373 (b:=10) h4 h1 (by omega) (by decide) (by have:Bw=1000000000:=rfl;omega)) ?_ Am))))))))));rintro r w3 ⟨l',k1,k2,k3,k4,k5,_⟩;refine Ah V V (A2 λA hA=>BK (Ak ?_));refine A6 hA (Ab (Aa V V (Al V V (G3 (b:=1) (by omega)) V (Ah V V (A2 λA hA=>Ak ?_)))));refine⟨(i+1,l',r),hA.weak ⟨V,V,V,trivial⟩,⟨hlt,k2,?_,by show l'.length<=i+1;omega,k1,f2.trans k5⟩,by show l.length-(i+1)<l.length-i;omega⟩;show CE l'=_;have ht:l.take (i+1)=l.take i++[c]:=by rw[KE,hc];rfl
   rw[k3,h2,ht,YP];omega
  ·have hlt:¬i<l.length:=B2 hf;obtain rfl:i=l.length:=by omega
   refine⟨(k,v),hA.weak ⟨V,trivial⟩,h1,?_,h3,h4,f2⟩;rw[h2,E5]
 ·rintro⟨k,v⟩ w3 ⟨h1,h2,h3,h4,h5⟩;exact Ac (Ab (Aa V V (Ah V V (Ag (AJ λA hA=>Ch V hA V ⟨k,h4,h1,h2,h3,h5⟩)))))
theorem c366:∀(n:Nat) {w:World},n<9223372036854775808->Calls prog 366 [nv n].toArray w (End (λr w'=>r=sv (EM n)/\Fr K0 w K0 w') λ_ _=>False):=by
 intro n;induction n using Nat.strongRecOn with
 |_ n ih=>
  intro w hn;have hmod:n%10<10:=Fv _ (by decide);refine AE 21 func366 V V V ?_;refine Ac (Ab (Ah V V (Ag ?_)));refine Ac (Ac (Ab (Aa V V (Al V V (Kx (b:=10)) V (Ag (AN V (λht=>?_) (λhf=>AG λA hA=>Ak ?_)))))))
  ·have hlt:n<10:=B7 ht;have e:n=n%10:=by omega
   have hadd:∀w:World,(binOp .add 3 (.int .i64 48) (nv n)).run prog w= .ok (nv (48+n%10)) w:=λw=>by
    have:=G3 (P:=prog) (w:=w) (t:=3) (a:=48) (b:=n) (by omega);rw[<-e];exact this
   refine Ac (Ab (Aa V V (Al V V (hadd _) V (BH V Tg V (BR V (M7 _) V (BH V (KX Cf) V (Af call358 V V (c358 (by simp)) ?_ Am)))))));rintro _ w2 ⟨rfl,rfl⟩;refine Ah V V (Ag (AJ λA hA=>C9 (Ch V hA V ⟨?_,Fr.alloc _ _ _⟩)));rw[EM,dif_pos hlt]
  ·have hge:¬n<10:=B2 hf;refine A6 hA (Ac (OI FS ?_));have f0:Fr K0 w K0 (w.drewN 1):=Fr.drewn 1;generalize w.drewN 1=w1 at f0⊢;have hR:Blind (bodyPost prog Tryz.f366 (End (λr w'=>r=sv (EM n)/\Fr K0 w K0 w') λ_ _=>False)):=Rd;have hd:EM n=EM (n/10)++[DW n]:=by rw[EM,dif_neg hge]
   have hdl:(EM (n/10)).length<2 ^ 39:=by have:=Pk 18 (n/10) (by omega);omega
   have hadd:∀w:World,(binOp .add 3 (.int .i64 48) (nv (n%10))).run prog w= .ok (nv (48+n%10)) w:=λw=>G3 (P:=prog) (w:=w) (t:=3) (a:=48) (b:=n%10) (by omega);refine GA (i:=0) V (by decide+kernel) hR.then V V (JE (i:=1) V (by decide+kernel) hR.then V V (λw=>NK (b:=10) (by decide) hn) V (GA (i:=3) V (by decide+kernel) hR.then V V ?_));refine JE (i:=4) V (by decide+kernel) hR.then V V (λw=>NL (b:=10) (by decide) hn) V (JE (i:=5) V (by decide+kernel) hR.then V V hadd V (Oj (i:=6) V (by decide+kernel) hR.then V (λw=>Tg) V ?_));have hsv:∀w:World,(binOp .add 9 (sv (EM (n/10))) (sv [DW n])).run prog w= .ok (sv (EM n)) w:=λw=>by
    rw[hd];exact Ac4 (by simp;omega)
   refine LS (i:=2) (j:=7) (by decide+kernel) V V ?_ ?_
   ·refine Af call366 V V (ih (n/10) (by omega) (by omega)) ?_ Am;rintro _ w2 ⟨rfl,f2⟩;refine BI (Cp (i:=7) (by decide+kernel) V (BR V (M7 _) V (BI (Cp (i:=8) (by decide+kernel) V (BH V (KX Cf) V (BI (Cp (i:=9) (by decide+kernel) V (Fg V V (hsv _) V
     (BI (Cp (i:=10) (by decide+kernel) rfl (Ah rfl rfl (BI (HK (by decide+kernel) (λa ha=>Ak ?_))))))))))))))
    exact A6 ha (AJ λA hA=>Ch V hA V ⟨rfl,(f0.trans f2).trans (Fr.alloc _ _ _)⟩)
   ·refine BR V (M7 _) V (BI ?_);have f1:Fr K0 w1 K0 (w1.alloc (.cells [bv (DW n)].toArray 5)):=Fr.alloc _ _ _;have b1:Blk (w1.alloc (.cells [bv (DW n)].toArray 5)) w1.heap.size [bv (DW n)] 5:=Cf;generalize w1.alloc (.cells [bv (DW n)].toArray 5)=w2 at f1 b1⊢;refine LS (i:=2) (j:=8) (by decide+kernel) V V ?_ ?_
    ·refine Af call366 V V (ih (n/10) (by omega) (by omega)) ?_ Am;rintro _ w3 ⟨rfl,f2⟩;have b2:Blk w3 w1.heap.size [bv (DW n)] 5:=(f2.blk _ b1.lt (λh=>h)).trans b1;refine BI (Cp (i:=8) (by decide+kernel) V (BH V (KX b2) V (BI (Cp (i:=9) (by decide+kernel) V (Fg V V (hsv _) V
      (BI (Cp (i:=10) (by decide+kernel) rfl (Ah rfl rfl (BI (HK (by decide+kernel) (λa ha=>Ak ?_)))))))))))
     exact A6 ha (AJ λA hA=>Ch V hA V ⟨rfl,(f0.trans f1).trans f2⟩)
    ·refine BH V (KX b1) V (BI (Cp (i:=2) (by decide+kernel) V ?_));refine Af call366 V V (ih (n/10) (by omega) (by omega)) ?_ Am;rintro _ w3 ⟨rfl,f2⟩;refine BI (Cp (i:=9) (by decide+kernel) V (Fg V V (hsv _) V (BI (Cp (i:=10) (by decide+kernel) V (Ah V V (BI (HK (by decide+kernel) (λa ha=>Ak ?_))))))));exact A6 ha (AJ λA hA=>Ch V hA V ⟨rfl,(f0.trans f1).trans f2⟩)
theorem Y6(hv:NumV w va a)(ha:EW a)(hl:a.length<2 ^ 20):
 Calls prog 371 [va].toArray w (End (λr w'=>(∃out,IX out/\Dl out=CE a/\r=sv (D3 out))/\Fr K0 w K0 w') λ_ _=>False):=by
 obtain⟨ga,ca,hva⟩:=hv.slice;refine AE 33 func371 V V V ?_;refine Ac (Ab (Ah V V (Ag (Ac (Ab (Ah V V (Ag ?_)))))));refine CM (ι:=List UInt8) (λq=>[(3,sv q)]) (λq w'=>IX q/\Dl q=CE a/\q.length<=9*a.length/\Fr K0 w K0 w') ?_ ?_
 ·refine Ac (Ab (Ah V V (Aj [(0,va),(3,sv []),(4,nv 0)] ⟨V,V,V,trivial⟩ ?_)));refine AF (BP (ι:=Nat×List UInt8) (λq=>[(0,va),(3,sv q.2),(4,nv q.1)]) (λq w'=>q.1<=a.length/\GI a q.1 0 0 q.2/\Fr K0 w K0 w') (λq=>a.length-q.1)
   (0,[]) ⟨V,V,V,trivial⟩ ⟨AW _,GI.start a 0,Fr.refl _ _⟩ ?_)
  rintro⟨i,out⟩ w2 ⟨hi,hG,f2⟩;simp only at hi hG f2⊢;have hlen2:(Builtin.len_ #[262] 3 #[va]).run prog w2= .ok (nv a.length) w2:=by rw[hva];exact AM underlying262
  have hva2:NumV w2 va a:=hv.keep f2 (λ_ _ h=>h);refine Ac (Ac (Ab (Aa V V (Aa V V (AI V hlen2 V (Al V V Kx V (Ag (AN V (λht=>AG λA hA=>Ak ?_) (λhf=>BC λA hA=>AD (AD (B_ (Ak ?_))))))))))))
  ·have hlt:i<a.length:=B7 ht;obtain⟨y,hy⟩:∃y,a[i]? =some y:=⟨_,Bm hlt⟩;have hyb:=ha y (BA hy);have hy63:y<9223372036854775808:=by have:Bw=1000000000:=rfl;omega
   obtain⟨g,cap,hg,hcell⟩:=hva2.get hy;have hidx:(Instr.indexAt 262 va (nv i)).run prog w2= .ok (.pointer (some ⟨g,i,none⟩)) w2:=by
    rw[hg];have:=Dy (P:=prog) (w:=w2) (b:=g) (o:=0) (len:=a.length) (cap:=cap) (i:=(i:Int)) underlying262 Bo (by omega) (by omega);simpa[nv]using this
   have hG0:GI a i 0 y out:=⟨hG.dec,hG.len,by have:=hG.val;simpa[Ml]using this⟩;refine A6 hA (CM (ι:=List UInt8) (λq=>[(0,va),(3,sv q),(4,nv i)]) (λq w'=>GI a i 9 y q/\Fr K0 w K0 w') ?_ ?_)
   ·refine AF (Ac (Ab (Aa V V (Aa V V (AO V V hidx V (Ae V (Ai Bo hcell) V (Ah V V (Ag ?_))))))));refine Ac (Ab (Ah V V (Aj [(0,va),(3,sv out),(4,nv i),(5,nv (y/10 ^ 0)),(6,nv 0)] ⟨rfl,rfl,rfl,by rw[Nat.pow_zero,Nat.div_one];rfl,rfl,trivial⟩ ?_)));refine AF (BP (ι:=Nat×List UInt8) (λq=>[(0,va),(3,sv q.2),(4,nv i),(5,nv (y/10 ^ q.1)),(6,nv q.1)]) (λq w'=>q.1<=9/\GI a i q.1 y q.2/\Fr K0 w K0 w') (λq=>9-q.1)
     (0,out) ⟨V,V,V,V,V,trivial⟩ ⟨by omega,hG0,f2⟩ ?_)
    clear hG hG0 f2 hidx hcell hva2 hlen2;rintro⟨k,out⟩ w3 ⟨hk,hG,f3⟩;simp only at hk hG f3⊢;refine Ac (Ac (Ab (Aa V V (Al V V (Kx (b:=9)) V (Ag (AN V (λht=>AG λA hA=>Ak ?_) (λhf=>BC λA hA=>AD (AD (B_ (BK (Ak ?_)))))))))))
    ·have hk9:k<9:=B7 ht;have hq:y/10 ^ k<=y:=RC _ _;have hol:out.length<2 ^ 39:=by have:=hG.len;omega
     have hadd:∀w:World,(binOp .add 3 (.int .i64 48) (nv (y/10 ^ k%10))).run prog w= .ok (nv (48+y/10 ^ k%10)) w:=λw=>by
      have h10:y/10 ^ k%10<10:=Fv _ (by decide);exact G3 (P:=prog) (w:=w) (t:=3) (a:=48) (b:=y/10 ^ k%10) (by omega)
     refine A6 hA (Ac (AF (Ac (Ab (Aa V V (Al V V (NL (b:=10) (by decide) (by omega)) V (Al V V (hadd _) V (BH V Tg V (BR V (M7 _) V (BH V (KX Cf) V ?_))))))))));have f4:Fr K0 w K0 (w3.alloc (.cells [bv (DW (y/10 ^ k))].toArray 5)):=f3.trans (Fr.alloc _ _ _);generalize w3.alloc (.cells [bv (DW (y/10 ^ k))].toArray 5)=w4 at f4⊢;refine Aa V V (Fg V V (Ac4 (a:=[DW (y/10 ^ k)]) (b:=out) (by simp;omega)) V (Ah V V (Ag ?_)));refine Ab (Aa V V (Al V V (NK (b:=10) (by decide) (by omega)) V (Ah V V (A2 λA hA=>BK (Ak ?_)))));refine A6 hA (Ab (Aa V V (Al V V (G3 (b:=1) (by omega)) V (Ah V V (A2 λA hA=>Ak ?_)))));refine⟨(k+1,DW (y/10 ^ k)::out),hA.weak ⟨rfl,rfl,rfl,?_,rfl,trivial⟩,⟨hk9,hG.step,f4⟩,by show 9-(k+1)<9-k;omega⟩;show some (nv (y/10 ^ k/10))=some (nv (y/10 ^ (k+1)));rw[Nat.div_div_eq_div_mul,IK]
    ·have hk9:¬k<9:=B2 hf;obtain rfl:k=9:=by omega
     exact⟨out,hA.weak ⟨V,V,V,trivial⟩,hG,f3⟩
   ·rintro q w3 ⟨hG9,f3⟩;refine Ab (Aa V V (Al V V (G3 (b:=1) (by omega)) V (Ah V V (A2 λA hA=>Ak ?_))));exact⟨(i+1,q),hA.weak ⟨V,V,V,trivial⟩,⟨hlt,hG9.next hy hyb 0,f3⟩,by show a.length-(i+1)<a.length-i;omega⟩
  ·have hlt:¬i<a.length:=B2 hf;obtain rfl:i=a.length:=by omega
   refine⟨out,hA.weak ⟨V,trivial⟩,hG.dec,?_,by rw[hG.len];omega,f2⟩;have:=hG.val;rw[E5]at this;simpa[Ml]using this
 ·rintro q w3 ⟨h1,h2,h3,f3⟩;refine Ac (Ab (Aa V V (Af call358 V V (c358 (by omega)) ?_ Am)));rintro _ w4 ⟨rfl,rfl⟩;exact Ah V V (Ag (AJ λA hA=>Ch V hA V ⟨⟨q,h1,h2,rfl⟩,f3⟩))
end Go.Sx