import Derived.Test.YtdldhfocpandoaaGreatNuA
import Derived.Test.YtdldhfocpandoaaGreatCkH
import Derived.Test.YtdldhfocpandoaaGreatStF
import Derived.Laws.Externs
import Derived.Test.YtdldhfocpandoaaGreatCkF
import Derived.Test.YtdldhfocpandoaaGreatStP
noncomputable section
set_option maxHeartbeats 8000000
set_option maxRecDepth 8000
namespace Go.Sx
open Go.Proofs Go.Proofs.Tryz
theorem Ab5(args:Array Value)(w:World):(callFunc 353 args).run prog w=((Extern.MathFloatBits.float64bits args).run prog w).andThen λv w'=>.ok (.value v) w':=
 run_callFunc_extern func353 (by kernel_rfl) (by kernel_rfl) (by kernel_rfl) (by kernel_rfl) args w
theorem Atb(args:Array Value)(w:World):(callFunc 354 args).run prog w=((Extern.MathFloatBits.float64frombits args).run prog w).andThen λv w'=>.ok (.value v) w':=
 run_callFunc_extern func354 (by kernel_rfl) (by kernel_rfl) (by kernel_rfl) (by kernel_rfl) args w
theorem Ank:Go.Ck.ExtOK prog Go.Ck.extF:=by
 intro f b h x y hy w;have hf:(f=353/\b=true)\/(f=354/\b=false):=by
  simp only[Go.Ck.extF,Go.Ck.get_cons,Go.Ck.get_nil]at h;split at h
  ·rename_i hb;cases h;exact .inl ⟨(AH hb).symm,rfl⟩
  ·split at h
   ·rename_i hb;cases h;exact .inr ⟨(AH hb).symm,rfl⟩
   ·cases h
 rcases hf with⟨rfl,rfl⟩|⟨rfl,rfl⟩
 ·unfold Go.Ck.extV at hy;split at hy<;>cases hy
  ·rename_i n _;rw[Ab5];rfl
  ·simp at*
 ·unfold Go.Ck.extV at hy;split at hy<;>cases hy
  ·simp at*
  ·rw[Atb];rfl
def I6(n:Nat):Value:=.int .u64 (n:Int)
def G7(b:Nat):Nat:=if b/2 ^ 52=0 then b%2 ^ 52 else b%2 ^ 52+2 ^ 52
def En(b:Nat):Int:=if b/2 ^ 52=0 then-1074 else(b/2 ^ 52:Nat)-1075
theorem Aub(b:Nat):G7 b<2 ^ 53:=by
 unfold G7;have:b%2 ^ 52<2 ^ 52:=Fv _ (by decide);split<;>omega
variable{b:Nat}
theorem Auc(h:0<b):0<G7 b:=by
 unfold G7;split<;>omega
theorem Aua(h:b<2 ^ 63):-1074<=En b/\En b<=972:=by
 unfold En;split<;>omega
variable{w:World}
theorem Acf{t:TypeId}{a:Nat}(hb:b≠0):(binOp .rem t (I6 a) (I6 b)).run prog w= .ok (I6 (a%b)) w:=by
 have e:(a:Int).tmod (b:Int)=((a%b:Nat):Int):=by rw[Rp (by omega)];rfl
 have hn:¬(b:Int)=0:=by omega
 simp only[I6,binOp,Op.intDiv,hn,if_false,e];rfl
theorem YJ{n:Nat}(h:n<2 ^ 63):(convert 164 3 (I6 n)).run prog w= .ok (nv n) w:=by
 have:=De (P:=prog) (w:=w) (s:=164) (t:=3) (k:=.i64) (k':=.u64) (n:=(n:Int)) runUnderlying164 runUnderlying3;rwa[CS (by unfold AP;omega)]at this
theorem c359(hb:b<2 ^ 63):Calls prog 359 [I6 b].toArray w (End (λr w'=>r= .tuple #[nv (G7 b),.int .i64 (En b)]/\w'=w) λ_ _=>False):=by
 have hm:b%2 ^ 52<2 ^ 52:=Fv _ (by decide);have hq:b/2 ^ 52<2 ^ 11:=by omega
 refine AE 19 func359 V V V ?_;refine Ac (Ab (Ah V V (Ah V V (Ag ?_))));refine Ac (Ab (Aa V V (Al V V (Acf (b:=2 ^ 52) (by decide)) V (BH V (YJ (by omega)) V (Ah V V (Ag ?_))))));refine Ac (Ab (Aa V V (Al V V (Q9 (k:=.u64) (d:=52) V V) V (BH V (YJ (by omega)) V (Ah V V (Ag ?_))))));refine Ac (Ac (Ab (Aa V V (Al V V (E0 (c:=decide (b/2 ^ 52=0)) (BM.2 (by omega))) V (Ag (AN V (λht=>?_) (λhf=>AG λA hA=>Ak ?_)))))))
 ·have h0:b/2 ^ 52=0:=B7 ht;refine Ac (Ab (Aa V V (Ah V V (Ah V V (Ag (AJ λA hA=>C9 (GV V hA V V ⟨?_,rfl⟩)))))));unfold G7 En;rw[if_pos h0,if_pos h0]
 ·have h0:¬b/2 ^ 52=0:=B2 hf;have hsub:∀w:World,(binOp .sub 3 (nv (b/2 ^ 52)) (.int .i64 1075)).run prog w= .ok (.int .i64 ((b/2 ^ 52:Nat)-1075)) w:=λw=>by
   have:IntKind.i64.wrap (((b/2 ^ 52:Nat):Int)-1075)=((b/2 ^ 52:Nat):Int)-1075:=CS (by unfold AP;omega);simp only[nv,binOp,Op.intArith,this];rfl
  have hadd:∀w:World,(binOp .add 3 (nv (b%2 ^ 52)) (.int .i64 4503599627370496)).run prog w= .ok (nv (b%2 ^ 52+2 ^ 52)) w:=λw=>by
   generalize b%2 ^ 52=q at hm⊢;have e:(2:Nat) ^ 52=4503599627370496:=rfl;rw[e]at hm⊢;exact G3 (P:=prog) (w:=w) (t:=3) (a:=q) (b:=4503599627370496) (by omega)
  refine A6 hA (Ac (Ab (Aa V V (Al V V (hadd _) V (Aa V V (Al V V (hsub _) V (Ah V V (Ah V V (Ag (AJ λA hA=>GV V hA V V ⟨?_,rfl⟩))))))))));unfold G7 En;rw[if_neg h0,if_neg h0]
theorem c366n{n:Int}(h0:n<0)(h1:-9223372036854775808<=n):Calls prog 366 [.int .i64 n].toArray w (End (λr w'=>(∃l,r=sv l/\l.length<=1)/\Fr K0 w K0 w') λ_ _=>False):=by
 refine AE 21 func366 V V V ?_;refine Ac (Ab (Ah V V (Ag ?_)));refine Ac (Ac (Ab (Aa V V (Al V V (CR (c:=true) (by simp;omega)) V (Ag (Ga V ?_))))));have hadd:∀w:World,(binOp .add 3 (.int .i64 48) (.int .i64 n)).run prog w= .ok (.int .i64 (48+n)) w:=λw=>by
  have:IntKind.i64.wrap (48+n)=48+n:=CS (by unfold AP;omega);simp only[binOp,Op.intArith,this];rfl
 have hconv:∀w:World,(convert 3 5 (.int .i64 (48+n))).run prog w= .ok (bv (UInt8.ofNat ((48+n)%256).toNat)) w:=λw=>by
  have:=De (P:=prog) (w:=w) (s:=3) (t:=5) (k:=.u8) (k':=.i64) (n:=48+n) runUnderlying3 runUnderlying5;rw[IA]at this;have hm0:=Ov (48+n) (show(256:Int)≠0 by decide);have hm1:=Int.emod_lt_of_pos (48+n) (show(0:Int)<256 by decide);have e:(48+n)%256=((UInt8.ofNat ((48+n)%256).toNat).toNat:Int):=by
   simp only[UInt8.toNat_ofNat'];omega
  rw[this];unfold bv;rw[<-e]
 refine Ac (Ab (Aa V V (Al V V (hadd _) V (BH V (hconv _) V (BR V (M7 _) V (BH V (KX Cf) V (Af call358 V V (c358 (by simp)) ?_ Am)))))));rintro _ w2 ⟨rfl,rfl⟩;refine Ah V V (Ag (AJ λA hA=>C9 (Ch V hA V ⟨⟨_,rfl,?_⟩,Fr.alloc _ _ _⟩)));have:=WD [UInt8.ofNat ((48+n)%256).toNat];simpa using this
theorem Adh:AC prog 408 true 2:=⟨isAgg408,sizeOf408⟩
theorem c361(h0:0<b)(hb:b<2 ^ 63):Calls prog 361 [.float .f64 b].toArray w (End (λr w'=>(∃l k,r= .agg #[sv l,.int .i64 k]/\1<=l.length/\l.length<=800/\ -1074<=k/\k<=0)/\Fr K0 w K0 w') λ_ _=>False):=by
 have hm:=Aub b;have hmp:=Auc h0;have hk:=Aua hb;refine AE 30 func361 V V V ?_;have hbuild:∀(l:List UInt8) (w:World),(Instr.build 408 #[(0,sv l)]).run prog w= .ok (.agg #[sv l,.int .i64 0]) w:=λl w=>by
  simp[Instr.build,zeroValue408,runUnderlying408,Value.cells,Instr.fill,sizeOf9,sizeOf3,sv]
 have hbuild2:∀(l:List UInt8) (k:Int) (w:World),(Instr.build 408 #[(0,sv l),(1,.int .i64 k)]).run prog w= .ok (.agg #[sv l,.int .i64 k]) w:=λl k w=>by
  simp[Instr.build,zeroValue408,runUnderlying408,Value.cells,Instr.fill,sizeOf9,sizeOf3,sv]
 refine Ac (Ab (Ct (z:=.agg #[.string ⟨#[]⟩,.int .i64 0]) (zeroValue408 _) V (Ag ?_)));have f1:Fr K0 w K0 (w.alloc (.cells [.string ⟨#[]⟩,.int .i64 0].toArray 408)):=Fr.alloc _ _ _;have b1:Blk (w.alloc (.cells [.string ⟨#[]⟩,.int .i64 0].toArray 408)) w.heap.size [.string ⟨#[]⟩,.int .i64 0] 408:=Cf;show W _ _ _ _ _ _ (w.alloc (.cells [.string ⟨#[]⟩,.int .i64 0].toArray 408));generalize w.alloc (.cells [.string ⟨#[]⟩,.int .i64 0].toArray 408)=w1 at f1 b1⊢;have hmod:b%2 ^ 63=b:=II hb;have hrem:∀w:World,(binOp .rem 164 (I6 b) (.int .u64 9223372036854775808)).run prog w= .ok (I6 b) w:=λw=>by
  have:=Acf (w:=w) (t:=164) (a:=b) (b:=2 ^ 63) (by decide);rw[hmod]at this;exact this
 refine Ac (Ab (Aa V V (CY (v:=I6 b) (w':=w1) V V V (λA hA=>?_) (Al V V (hrem _) V (Af call359 V V (c359 hb) ?_ Am)))))
 ·have hx:=hA.eval (x:=.tmp 7) (v:=.float .f64 b) rfl;have harr:#[Operand.tmp 7].map A.eval=#[.float .f64 b]:=by simp[hx]
  simp only[execOp,resolve,invoke,Deferred.ofValue,harr];have h3:A.eval (.func 353)= .func (.func 353) #[] #[]:=rfl;simp[h3,Ab5];rfl
 rintro _ w2 ⟨rfl,rfl⟩;refine Aa V V (D6 V V V (D6 V V V (Ah V V (Ah V V (Aj [(2,ptr w.heap.size),(3,nv (G7 b)),(4,.int .i64 (En b))] ⟨V,V,V,trivial⟩ ?_)))));have hdl:=Pk 18 (G7 b) (by omega);refine Ac (Ab (Aa V V (Af call366 V V (c366 (G7 b) (by omega)) ?_ Am)));rintro _ w3 ⟨rfl,f3⟩;refine Af call367 V V (c367 (Amo _) (by omega)) ?_ Am;rintro r w4 ⟨la,k1,k2,k3,k4,f4⟩;rw[Amp]at k3;have F4:=(f1.trans f3).trans f4;have B4:Blk w4 w.heap.size [.string ⟨#[]⟩,.int .i64 0] 408:=by
  have e3:=f3.blk _ b1.lt (λh=>h);have e4:=f4.blk _ (BB b1.lt f3.size) (λh=>h);unfold Blk at b1⊢;rw[e4,e3];exact b1
 refine Ah V V (Aj [(2,ptr w.heap.size),(4,.int .i64 (En b)),(5,r)] ⟨V,V,V,trivial⟩ ?_)
 --the end:the result's variable is stored,and read
 have fin:∀(l:List UInt8) (k:Int) (w5:World),Fr K0 w4 K0 w5->∃w6,(storeVar 408 ⟨w.heap.size,0,none⟩ (.agg #[sv l,.int .i64 k])).run prog w5= .ok () w6/\(loadVar 408 ⟨w.heap.size,0,none⟩).run prog w6= .ok (.agg #[sv l,.int .i64 k]) w6/\Fr K0 w K0 w6:=by
  intro l k w5 f5;have B5:Blk w5 w.heap.size [.string ⟨#[]⟩,.int .i64 0] 408:=by
   have e5:=f5.blk _ B4.lt (λh=>h);unfold Blk at B4⊢;rw[e5];exact B4
  have hst:=CG (P:=prog) (t:=408) (o:=0) (v:=.agg #[sv l,.int .i64 k]) (vs:=[sv l,.int .i64 k]) Adh rfl rfl (by simp[sv,Value.oneCell']) B5 (by simp);have B6:=B5.setRow (Ci [.string ⟨#[]⟩,.int .i64 0] 0 [sv l,.int .i64 k]);refine⟨_,hst,?_,?_⟩
  ·exact AS (cs:=[sv l,.int .i64 k]) Adh V B6.all
  ·have F5:=F4.trans f5;have hs:Fr (λx=>x=w.heap.size) w5 (λx=>x=w.heap.size) (w5.setRow w.heap.size (Ci [.string ⟨#[]⟩,.int .i64 0] 0 [sv l,.int .i64 k]).toArray):=Fr.setRow _ rfl;exact⟨hs.os.trans F5.os,hs.tape.trans F5.tape,hs.output.trans F5.output,AX F5.size hs.size,λx hx _=>by rw[hs.blk x (BB hx F5.size) (λe=>by omega),F5.blk x hx (λh=>h)],λ_ h=>h.elim⟩
 refine Ac (Ac (Ab (Aa V V (Al V V (NJ (c:=decide (0<=En b)) V) V (Ag (AN V (λht=>?_) (λhf=>AG λA hA=>Ak ?_)))))))
 ·have hge:0<=En b:=B7 ht;obtain⟨k,hkk⟩:∃k:Nat,En b=k:=⟨(En b).toNat,(Ma hge).symm⟩;have hkv:Value.int .i64 (En b)=nv k:=by rw[hkk];rfl
  rw[hkv];refine Ac (Ab (Aa V V (Aa V V (Af call368 V V (c368 (n:=k) k1 k2 (by omega)) ?_ Am))));rintro r5 w5 ⟨l5,m1,m2,m3,m4,f5⟩;refine Af call371 V V (Y6 m1 m2 (by omega)) ?_ Am;rintro _ w6 ⟨⟨out,o1,o2,rfl⟩,f6⟩;obtain⟨w7,s1,s2,s3⟩:=fin (D3 out) 0 w6 (f5.trans f6);have hval:Dl out=G7 b*2 ^ k:=by rw[o2,m3,k3]
  refine EB V (hbuild _ _) V (An V V s1 (Ag (AJ λA hA=>C9 (Em V hA V s2 ⟨⟨_,_,rfl,?_,?_,by omega,by omega⟩,s3⟩))))
  ·exact Ac1 (by rw[hval];exact Nat.mul_pos hmp (Nat.two_pow_pos _))
  ·exact Ac2 o1 (by rw[hval];exact Anj hm (by omega))
 ·have hlt:¬0<=En b:=B2 hf;obtain⟨k,hkk⟩:∃k:Nat,En b= -(k:Int):=⟨(-(En b)).toNat,by omega⟩;have hneg:∀w:World,(Op.unary .neg (.int .i64 (En b))).run prog w= .ok (nv k) w:=λw=>by
   have:IntKind.i64.wrap (0-(En b))=(k:Int):=by rw[hkk,show(0:Int)- -(k:Int)=k from by omega];exact CS (by unfold AP;omega)
   show Result.ok (Value.int .i64 (IntKind.i64.wrap (0-(En b)))) w=_;rw[this];rfl
  refine A6 hA (Ac (Ab (Aa V V (Aa V V (OK V (hneg _) V (Af call372 V V (c372 (b:=5) (n:=k) k1 k2 (by omega) (by decide)) ?_ Am))))));rintro r5 w5 ⟨l5,m1,m2,m3,m4,f5⟩;refine Af call371 V V (Y6 m1 m2 (by omega)) ?_ Am;rintro _ w6 ⟨⟨out,o1,o2,rfl⟩,f6⟩;obtain⟨w7,s1,s2,s3⟩:=fin (D3 out) (En b) w6 (f5.trans f6);have hval:Dl out=G7 b*5 ^ k:=by rw[o2,m3,k3]
  refine Aa V V (EB V (hbuild2 _ _ _) V (An V V s1 (Ag (AJ λA hA=>Em V hA V s2 ⟨⟨_,_,rfl,?_,?_,by omega,by omega⟩,s3⟩))))
  ·exact Ac1 (by rw[hval];exact Nat.mul_pos hmp (Nat.pow_pos (by decide)))
  ·exact Ac2 o1 (by rw[hval];exact Ani hm (by omega))
end Go.Sx
namespace Go.Ck
open Go.Sx Go.Proofs Go.Proofs.Tryz
section
variable{w w':World}{M:AT}{A:AV}
theorem WOK.fr(h:WOK w M A)(f:Fr K0 w K0 w'):WOK w' M A:=by
 refine⟨λb o x hx=>?_,λb k sz hx=>?_⟩
 ·have:=h.hM b o x hx;refine⟨?_,this.2⟩;rw[GM (f.blk b (by
   have h1:=this.1;cases hb:w.heap[b]? with
   |none=>simp[World.cell?,hb]at h1
   |some y=>exact(FG.1 hb).1) (λh=>h))]
  exact this.1
 ·obtain⟨c,t,e1,e2⟩:=h.hA b k sz hx;exact⟨c,t,by rw[f.blk b (FG.1 e1).1 (λh=>h)];exact e1,e2⟩
theorem FraM.fr{B:Nat->Prop}(f:Fr K0 w K0 w'):FraM B w M A w' M A:=
 ⟨f.os,f.tape,f.output,f.size,λb hb _ _=>f.blk b hb (λh=>h),λ_ _ _ h=>.inl h,λ_ _ h=>.inl h⟩
end
variable{os:List (Option Nat)}{S:List Sm}{p:A7}{A:AV}{M:AT}{w:World}{T:Ar}
theorem PVs.one{x:Value}(h:PVs T w M A [p] [x] S os):∃s o,S=[s]/\os=[o]/\PV T w M A p x s o:=by
 cases S with
 |nil=>simp[PVs]at h
 |cons s S=>
  cases os with
  |nil=>simp[PVs]at h
  |cons o os=>
   obtain⟨h1,h2⟩:=h;cases S with
   |cons=>simp[PVs]at h2
   |nil=>
    cases os with
    |cons=>simp[PVs]at h2
    |nil=>exact⟨s,o,rfl,rfl,h1⟩
variable{css:List (List Value)}{xs:List Value}
theorem PAVs.one(h:PAVs [.one p] xs css):∃x,xs=[x]/\css=[[x]]:=by
 cases xs with
 |nil=>cases css<;>simp[PAVs]at h
 |cons x xs=>
  cases css with
  |nil=>simp[PAVs]at h
  |cons c css=>
   obtain⟨h1,h2⟩:=h;have h1:c=[x]:=h1;cases xs with
   |cons=>cases css<;>simp[PAVs]at h2
   |nil=>
    cases css with
    |cons=>simp[PAVs]at h2
    |nil=>exact⟨x,rfl,by rw[h1]⟩
variable{cons:Nat->List Con}
theorem Auo:∀c∈c366,FZ prog eT cons 366 c:=by
 intro c hc w M A xs S rb rcs css os E _;simp only[c366,Ao,AB,or_false]at hc;subst hc;obtain⟨wok,args,vals,sep,facts⟩:=E;obtain⟨ha,rfl,rfl⟩:PAVs _ xs css/\rcs=[]/\rb=none:=args;obtain⟨x,rfl,rfl⟩:=PAVs.one ha;obtain⟨s,o,rfl,rfl,h1,h2,h3⟩:=PVs.one vals;subst h2;have fin:∀(l:List UInt8) (w':World),l.length<=20->Fr K0 w K0 w'->∃post∈([{res:=[.one (.str)],mem:=[],facts:=[.add (.k (20)) (.mul (-1) (.v 1))]}]:List Hh),∃M' A' Y Z rcs' css' ros,
  Fw eT w M A {ref:=none,args:=[.one (.int .i64)],facts:=[],layer:=1,meas:=.k (0),posts:=[{res:=[.one (.str)],mem:=[],facts:=[.add (.k (20)) (.mul (-1) (.v 1))]}]} [s] none [] [o] post (sv l) w' M' A' Y Z rcs' css' ros:=by
  intro l w' hl f;refine⟨_,DT.2 V,M,A,[Bv l.length],[],[],[[sv l]],[none],λ_ _ _ h=>h,λ_ _ h=>h,wok.fr f,FraM.fr f,⟨_,rfl,rfl⟩,⟨⟨rfl,_,rfl,by simp[Bv,ByteArray.size],by simp only[ByteArray.size,GF,maxLen];omega⟩,trivial⟩,⟨rfl,rfl⟩,?_,?_,?_⟩
  ·simp[D5,B8,BQ,PA.pats,By]
  ·intro b hb;simp[B8,BQ,PA.pats,By]at hb
  ·intro t ht;simp only[Ao,AB,or_false]at ht;subst ht;simp[Tm.den,Bv];omega
 by_cases hn:0<=s.n
 ·obtain⟨n,hn'⟩:∃n:Nat,s.n=n:=⟨s.n.toNat,(Ma hn).symm⟩;have hb:=h3.2;simp only[C1]at hb;rw[hn'];refine(Go.Sx.c366 n (by omega)).mono ?_;intro e w' he;cases e with
  |returned r=>
   obtain⟨rfl,f⟩:=he;exact fin _ _ (by have:=Pk 18 n (by omega);omega) f
  |panicked ch=>exact he.elim
  |outgrown=>exact he.elim
 ·have hb:=h3.1;simp only[Cq]at hb;refine(Go.Sx.c366n (by omega) hb).mono ?_;intro e w' he;cases e with
  |returned r=>
   obtain⟨⟨l,rfl,hl⟩,f⟩:=he;exact fin l _ (by omega) f
  |panicked ch=>exact he.elim
  |outgrown=>exact he.elim
theorem Aun:∀c∈c361,FZ prog eT cons 361 c:=by
 intro c hc w M A xs S rb rcs css os E _;simp only[c361,Ao,AB,or_false]at hc;subst hc;obtain⟨wok,args,vals,sep,facts⟩:=E;obtain⟨ha,rfl,rfl⟩:PAVs _ xs css/\rcs=[]/\rb=none:=args;obtain⟨x,rfl,rfl⟩:=PAVs.one ha;obtain⟨s,o,rfl,rfl,h1,h2,h3⟩:=PVs.one vals;subst h2;have g1:=facts _ (by simp only[Ao];exact .inl V);have g2:=facts _ (by simp only[Ao];exact .inr (.inl V));simp[Tm.den]at g1 g2;obtain⟨n,hn'⟩:∃n:Nat,s.n=n:=⟨s.n.toNat,by omega⟩;have hnn:s.n.toNat=n:=by omega
 rw[hnn];refine(Go.Sx.c361 (b:=n) (by omega) (by omega)).mono ?_;intro e w' he;cases e with
 |returned r=>
  obtain⟨⟨l,k,rfl,e1,e2,e3,e4⟩,f⟩:=he;refine⟨_,DT.2 V,M,A,[Bv l.length,Bv k],[],[],[[sv l,.int .i64 k]],[none,none],λ_ _ _ h=>h,λ_ _ h=>h,wok.fr f,FraM.fr f,⟨_,rfl,rfl,rfl⟩,
   ⟨⟨rfl,_,rfl,by simp[Bv,ByteArray.size],by simp only[ByteArray.size,GF,maxLen];omega⟩,⟨rfl,rfl,by simp only[Bv,Cq];omega,by simp only[Bv,C1];omega⟩,trivial⟩,⟨rfl,rfl⟩,?_,?_,?_⟩
  ·simp[D5,B8,BQ,PA.pats,By]
  ·intro b hb;simp[B8,BQ,PA.pats,By]at hb
  ·intro t ht;simp only[Ao,AB,or_false]at ht;rcases ht with rfl|rfl|rfl|rfl<;>simp[Tm.den,Bv]<;>omega
 |panicked ch=>exact he.elim
 |outgrown=>exact he.elim
end Go.Ck
namespace Go.Sx
open Go.Proofs Go.Proofs.Tryz Go.Ck
theorem T_:Ax prog 339 0 0:=fA underlying339 rfl sizeOf333 rfl rfl
theorem TA:Ax prog 339 1 1:=fA underlying339 rfl sizeOf3 rfl rfl
theorem Ans:Ax prog 339 2 2:=fA underlying339 rfl sizeOf4 rfl rfl
theorem Ant:Ax prog 341 0 0:=fA underlying341 rfl sizeOf3 rfl rfl
theorem Anu:Ax prog 341 1 1:=fA underlying341 rfl sizeOf9 rfl rfl
theorem Ave:AC prog 333 false 1:=⟨isAgg333,sizeOf333⟩
theorem Avf:AC prog 341 true 3:=⟨isAgg341,sizeOf341⟩
variable{b:Nat}{w:World}
theorem Ahe{o:Nat}{x:Value}(h:w.cell? ⟨b,o,none⟩=some x):b<w.heap.size:=by
 cases hb:w.heap[b]? with
 |none=>simp[World.cell?,hb]at h
 |some y=>exact(FG.1 hb).1
def Ic(i n:Nat)(k:Int)(s:ByteArray):Bool:=decide (i<n)&&decide (k=3)&&decide (s=tagS)
theorem c305s{p i n cap:Nat}{ga:Option Addr}{k:Int}{s:ByteArray}(hb:Blk w p [.slice ga n cap,nv i,.bool false] 339)(hi:i<2 ^ 40)
 (ht:i<n->∃g o,ga=some ⟨g,o,none⟩/\w.cell? ⟨g,o+i*3,none⟩=some (.int .i64 k)/\w.cell? ⟨g,o+i*3+1,none⟩=some (.string s)):
 Calls prog 305 [ptr p,.int .i64 0,.int .i64 3,.string tagS].toArray w (End (λr w'=>r= .bool (Ic i n k s)/\Fr K0 w K0 w') λ_ _=>False):=by
 have hC:∀{b o:Nat}{x:Value},w.cell? ⟨b,o,none⟩=some x->∀w',Fr K0 w K0 w'->w'.cell? ⟨b,o,none⟩=some x:=by
  intro b o x h w' f;rw[GM (f.blk b (Ahe h) (λh=>h))];exact h
 have hL:∀w',Fr K0 w K0 w'->(loadVar 333 ⟨p,0+0,none⟩).run prog w'= .ok (.slice ga n cap) w':=λw' f=>Ai Ave (hC (by rw[hb.cell];rfl) w' f);have hI:∀w',Fr K0 w K0 w'->(loadVar 3 ⟨p,0+1,none⟩).run prog w'= .ok (nv i) w':=λw' f=>Ai Bo (hC (by rw[hb.cell];rfl) w' f);have hB:∀w',Fr K0 w K0 w'->(loadVar 4 ⟨p,0+2,none⟩).run prog w'= .ok (.bool false) w':=λw' f=>Ai D4 (hC (by rw[hb.cell];rfl) w' f);have hadd:∀w:World,(binOp .add 3 (nv i) (.int .i64 0)).run prog w= .ok (nv i) w:=λw=>G3 (P:=prog) (w:=w) (t:=3) (a:=i) (b:=0) (by omega);have hlen:∀w:World,(Builtin.len_ #[333] 3 #[.slice ga n cap]).run prog w= .ok (nv n) w:=λw=>AM underlying333;have hlss:∀w:World,(binOp .lss 3 (nv i) (nv n)).run prog w= .ok (.bool (decide (i<n))) w:=λw=>Kx;refine AE 62 func305 V V V ?_;refine Ac (Ab (Ah V V (Ag ?_)));refine Ac (Ms (λw'=>Fr K0 w K0 w') FS (by decide+kernel) (Fr.drewn 1) ?_);refine Dd V V (Fx V V (DF V (λw=>Ans w _ _) V (Di V hB V (Aec V V (Dd V V (AZ (j:=5) V V V (Dd V V (AZ (j:=5) V V V (Fx V V (AZ (j:=5) V V V (DF V (λw=>TA w _ _) V (AZ (j:=5) V V V (Di V hI V (AZ (j:=5) V V V (Dd V V (AZ (j:=5) V V V (FX V V hadd V (AZ (j:=5) V V V (Dd V V (AZ (j:=5) V V V (Fx V V (AZ (j:=5) V V V (DF V (λw=>T_ w _ _) V (AZ (j:=5) V V V (Di V hL V (AZ (j:=5) V V V (OA V hlen V (AZ (j:=5) V V V (FX V V hlss V (GG V V V (Dd V V (?_))))))))))))))))))))))))))))))));by_cases hlt:i<n;rotate_left
 ·have hf:decide (i<n)=false:=decide_eq_false hlt;rw[hf];refine Xy _ _ _ V (OB λw' hw=>AJ λA hA=>Ch V hA V ⟨?_,hw⟩);simp[Ic,hf]
 obtain⟨g,o,rfl,ck,cs⟩:=ht hlt;have htr:decide (i<n)=true:=decide_eq_true hlt;rw[htr];have hidx:∀w:World,(Instr.indexAt 333 (.slice (some ⟨g,o,none⟩) n cap) (nv i)).run prog w= .ok (.pointer (some ⟨g,o+i*3,none⟩)) w:=λw=>by
  have:=Dy (P:=prog) (w:=w) (b:=g) (o:=o) (len:=n) (cap:=cap) (i:=(i:Int)) underlying333 Avf (by omega) (by omega);simpa[nv]using this
 have hK:∀w',Fr K0 w K0 w'->(loadVar 3 ⟨g,o+i*3+0,none⟩).run prog w'= .ok (.int .i64 k) w':=λw' f=>Ai Bo (hC ck w' f);have hT:∀w',Fr K0 w K0 w'->(loadVar 9 ⟨g,o+i*3+1,none⟩).run prog w'= .ok (.string s) w':=λw' f=>Ai FT (hC cs w' f);have heqK:∀w:World,(binOp .eql 3 (.int .i64 k) (.int .i64 3)).run prog w= .ok (.bool (decide (k=3))) w:=λw=>E0 rfl;refine AZ (j:=19) V V V (Dd V V (AZ (j:=19) V V V (Fx V V (AZ (j:=19) V V V (DF V (λw=>T_ w _ _) V (AZ (j:=19) V V V (Di V hL V (AZ (j:=19) V V V (Dd V V (AZ (j:=19) V V V (Fx V V (AZ (j:=19) V V V (DF V (λw=>TA w _ _) V (AZ (j:=19) V V V (Di V hI V (AZ (j:=19) V V V (Dd V V (AZ (j:=19) V V V (FX V V hadd V (AZ (j:=19) V V V (KK V V hidx V (AZ (j:=19) V V V (DF V (λw=>Ant w _ _) V (AZ (j:=19) V V V (Di V hK V (AZ (j:=19) V V V (Dd V V (AZ (j:=19) V V V (FX V V heqK V (GG V V V (Dd V V (?_))))))))))))))))))))))))))))))));by_cases hk:k=3;rotate_left
 ·have hf:decide (k=3)=false:=decide_eq_false hk;rw[hf];refine Xy _ _ _ V (OB λw' hw=>AJ λA hA=>Ch V hA V ⟨?_,hw⟩);simp[Ic,hf]
 have htk:decide (k=3)=true:=decide_eq_true hk;rw[htk];have heqT:∀w:World,(binOp .eql 9 (.string s) (.string tagS)).run prog w= .ok (.bool (decide (s=tagS))) w:=λw=>by
  have:(s.toList==tagS.toList)=decide (s=tagS):=by
   rw[Bool.eq_iff_iff];simp only[beq_iff_eq,decide_eq_true_eq];constructor
   ·intro h;rw[ByteArray.toList_eq,ByteArray.toList_eq]at h;exact ByteArray.ext (DB.mp h)
   ·intro h;rw[h]
  simp[binOp,Op.stringOp,this]
 refine AZ (j:=36) V V V (Dd V V (AZ (j:=36) V V V (Fx V V (AZ (j:=36) V V V (DF V (λw=>T_ w _ _) V (AZ (j:=36) V V V (Di V hL V (AZ (j:=36) V V V (Dd V V (AZ (j:=36) V V V (Fx V V (AZ (j:=36) V V V (DF V (λw=>TA w _ _) V (AZ (j:=36) V V V (Di V hI V (AZ (j:=36) V V V (Dd V V (AZ (j:=36) V V V (FX V V hadd V (AZ (j:=36) V V V (KK V V hidx V (AZ (j:=36) V V V (DF V (λw=>Anu w _ _) V (AZ (j:=36) V V V (Di V hT V (AZ (j:=36) V V V (Dd V V (AZ (j:=36) V V V (Aeb V V (λw=>rfl) heqT V (GG V V V (Xx V V (OB λw' hw=>AJ λA hA=>Ch V hA V ⟨?_,hw⟩))))))))))))))))))))))))))))))));simp[Ic,htr,htk]
end Go.Sx
namespace Go.Ck
open Go.Sx Go.Proofs Go.Proofs.Tryz
variable{css:List (List Value)}{xs:List Value}{p:A7}
theorem PAVs.cons1{ps:List PA}(h:PAVs (.one p::ps) xs css):∃x xs' css',xs=x::xs'/\css=[x]::css'/\PAVs ps xs' css':=by
 cases xs with
 |nil=>cases css<;>simp[PAVs]at h
 |cons x xs=>
  cases css with
  |nil=>simp[PAVs]at h
  |cons c css=>
   obtain⟨h1,h2⟩:=h;have h1:c=[x]:=h1;exact⟨x,xs,css,rfl,by rw[h1],h2⟩
theorem PAVs.nil(h:PAVs [] xs css):xs=[]/\css=[]:=by
 cases xs<;>cases css<;>simp[PAVs]at h;exact⟨rfl,rfl⟩
variable{os:List (Option Nat)}{S:List Sm}{A:AV}{M:AT}{w:World}{T:Ar}
theorem PVs.cons1{ps:List A7}(h:PVs T w M A (p::ps) xs S os):∃x xs' s S' o os',xs=x::xs'/\S=s::S'/\os=o::os'/\PV T w M A p x s o/\PVs T w M A ps xs' S' os':=by
 cases xs with
 |nil=>cases S<;>cases os<;>simp[PVs]at h
 |cons x xs=>
  cases S with
  |nil=>cases os<;>simp[PVs]at h
  |cons s S=>
   cases os with
   |nil=>simp[PVs]at h
   |cons o os=>exact⟨x,xs,s,S,o,os,rfl,rfl,rfl,h.1,h.2⟩
theorem PVs.nil(h:PVs T w M A [] xs S os):xs=[]/\S=[]/\os=[]:=by
 cases xs<;>cases S<;>cases os<;>simp[PVs]at h;exact⟨rfl,rfl,rfl⟩
theorem WO:(eT 3).cells=[.int .i64 1,.str 10000 10000 10000,.int .i64 1]:=rfl
theorem Ada:(eT 3).base=1:=rfl
variable{b:Nat}
theorem Avb{r:List CV}{o:Nat}(h:RepR eT M A r (eT 3).cells b o):∃(k:Int) (s:ByteArray) (m:Int),r=[.int k,.str s,.int m]/\M b o=some (.int .i64 k)/\M b (o+1)=some (.string s):=by
 rw[WO]at h;match r,h with
 |[c0,c1,c2],h=>
  simp only[RepR]at h;obtain⟨⟨x0,m0,h0⟩,⟨x1,m1,h1⟩,⟨x2,m2,h2⟩,_⟩:=h;cases c0<;>simp only[RepC]at h0;cases c1<;>simp only[RepC]at h1;cases c2<;>simp only[RepC]at h2;obtain⟨rfl,_⟩:=h0;obtain⟨rfl,_⟩:=h1;exact⟨_,_,_,rfl,m0,m1⟩
 |[],h=>simp[RepR]at h
 |[_],h=>simp[RepR]at h
 |[_,_],h=>simp[RepR]at h
 |_::_::_::_::_,h=>simp[RepR]at h
variable{cons:Nat->List Con}
theorem Aum:∀c,c305[0]? =some c->FZ prog eT cons 305 c:=by
 intro c hc w M A xs S rb rcs css os E _;simp only[c305,KC,Option.some.injEq]at hc;subst hc;obtain⟨wok,args,vals,sep,facts⟩:=E;obtain⟨b,xs',rfl,rfl,hB,ha⟩:∃b xs',xs= .pointer (some ⟨b,0,none⟩)::xs'/\rb=some b/\RefB w M A 339 b rcs/\PAVs [.one (.int .i64),.one (.int .i64),.one .sk] xs' css:=args;obtain⟨x1,xs1,css1,rfl,rfl,ha1⟩:=PAVs.cons1 ha;obtain⟨x2,xs2,css2,rfl,rfl,ha2⟩:=PAVs.cons1 ha1;obtain⟨x3,xs3,css3,rfl,rfl,ha3⟩:=PAVs.cons1 ha2;obtain⟨rfl,rfl⟩:=PAVs.nil ha3;clear ha ha1 ha2 ha3;have vals:PVs eT w M A [.fz 3,.int .i64,.boolc false,.int .i64,.int .i64,.sk] (rcs++[x1,x2,x3]) S os:=vals;obtain⟨y0,ys0,s0,S0,o0,os0,e0,rfl,rfl,p0,v0⟩:=PVs.cons1 vals;obtain⟨y1,ys1,s1,S1,o1,os1,rfl,rfl,rfl,p1,v1⟩:=PVs.cons1 v0;obtain⟨y2,ys2,s2,S2,o2,os2,rfl,rfl,rfl,p2,v2⟩:=PVs.cons1 v1;obtain⟨y3,ys3,s3,S3,o3,os3,rfl,rfl,rfl,p3,v3⟩:=PVs.cons1 v2;obtain⟨y4,ys4,s4,S4,o4,os4,rfl,rfl,rfl,p4,v4⟩:=PVs.cons1 v3;obtain⟨y5,ys5,s5,S5,o5,os5,rfl,rfl,rfl,p5,v5⟩:=PVs.cons1 v4;obtain⟨rfl,rfl,rfl⟩:=PVs.nil v5;clear vals v0 v1 v2 v3 v4 v5;have hlen:rcs.length=3:=by have:=congrArg List.length e0;simpa using this
 obtain⟨r0,r1,r2,rfl⟩:∃a b c,rcs=[a,b,c]:=by
  match rcs,hlen with
  |[a,b,c],_=>exact⟨a,b,c,rfl⟩
 simp only[CL,Dh,List.cons.injEq,Gc]at e0;obtain⟨rfl,rfl,rfl,rfl,rfl,rfl⟩:=e0;obtain⟨u,hu,⟨ga,cap,rfl,hum,hur⟩,hs0⟩:=p0;obtain⟨hs1,rfl,hin1⟩:=p1;obtain⟨hs2,rfl⟩:=p2;obtain⟨hs3,rfl,hin3⟩:=p3;obtain⟨hs4,rfl,hin4⟩:=p4;obtain⟨hs5,rfl⟩:=p5;have g0:=facts _ (by simp only[Ao];exact .inl V);have g1:=facts _ (by simp only[Ao];exact .inr (.inl V));have g2:=facts _ (by simp only[Ao];exact .inr (.inr (.inl V)));have g4:=facts _ (by simp only[Ao];exact .inr (.inr (.inr (.inr (.inl V)))));have g5:=facts _ (by simp only[Ao];exact .inr (.inr (.inr (.inr (.inr (.inl V))))));have g6:=facts _ (by simp only[Ao];exact .inr (.inr (.inr (.inr (.inr (.inr (.inl V)))))));have g7:=facts _ (by simp only[Ao];exact .inr (.inr (.inr (.inr (.inr (.inr (.inr (.inl V))))))));have hn0:s0.n=u.l.length:=by rw[hs0];rfl
 simp[Tm.den,hn0]at g0 g1 g2 g4 g5 g6 g7;obtain⟨i,hi⟩:∃i:Nat,s1.n=i:=⟨s1.n.toNat,by omega⟩;have h3:s3.n=0:=by omega
 have h4:s4.n=3:=by omega
 rw[hi]at hB⊢;rw[h3,h4];subst hs0;have hpm:∀j:Int,(Cd eT 3 u.l).pm j=pw eT u.l 3 j.toNat:=λj=>rfl;have hbig:(EI:Int)=18446744073709551616:=rfl
 --what is said of the answer
 have fin:∀(a:Bool) (w':World),Fr K0 w K0 w'->(a=true->i<u.l.length/\20000<=pw eT u.l 3 (i+1)-pw eT u.l 3 i)->pw eT u.l 3 (EI+i)=Dr a->∃post∈(c305[0]'(by decide)).posts,∃M' A' Y Z rcs' css' ros,
  Fw eT w M A (c305[0]'(by decide)) [Cd eT 3 u.l,s1,s2,s3,s4,s5] (some b) [.slice ga u.l.length cap,.int .i64 (i:Int),.bool false] [o0,o1,o2,o3,o4,o5] post (.bool a) w' M' A' Y Z rcs' css' ros:=by
  intro a w' f h1 h2;have hB':RefB w' M A 339 b [.slice ga u.l.length cap,.int .i64 (i:Int),.bool false]:=⟨by
   have:=f.blk b hB.blk.lt (λh=>h);have hb:=hB.blk;unfold Blk at hb⊢;rw[this];exact hb,hB.one,hB.M,hB.A⟩
  have common:∀post:Hh,post.res=[.one (.boolc a)]->post.mem=[none,none,none]->(∀t∈post.facts,0<=t.den ([Cd eT 3 u.l,s1,s2,s3,s4,s5]++[Bv (Dr a)]++[]))->∃M' A' Y Z rcs' css' ros,
   Fw eT w M A (c305[0]'(by decide)) [Cd eT 3 u.l,s1,s2,s3,s4,s5] (some b) [.slice ga u.l.length cap,.int .i64 (i:Int),.bool false] [o0,o1,o2,o3,o4,o5] post (.bool a) w' M' A' Y Z rcs' css' ros:=by
   intro post hr hm hf;refine⟨M,A,[Bv (Dr a)],[],[.slice ga u.l.length cap,.int .i64 (i:Int),.bool false],[[.bool a]],[none],λ_ _ _ h=>h,λ_ _ h=>h,wok.fr f,FraM.fr f,?_,?_,?_,?_,?_,hf⟩
   ·rw[hr];exact⟨_,rfl,rfl⟩
   ·rw[hr];exact⟨⟨rfl,rfl⟩,trivial⟩
   ·refine⟨b,rfl,hB',?_⟩;rw[hm];exact⟨.inl V,.inl V,.inl V,trivial⟩
   ·rw[hr];simp[D5,B8,BQ,PA.pats,By]
   ·intro c hc;rw[hr]at hc;simp[B8,BQ,PA.pats,By]at hc
  cases a with
  |true=>
   obtain⟨h3,h4⟩:=h1 rfl;refine⟨_,E4,common _ V V ?_⟩;intro t ht;simp only[Ao,AB,or_false]at ht;have e1:((i:Int)+1).toNat=i+1:=by omega
   have e2:((18446744073709551616:Int)+i).toNat=EI+i:=by unfold EI;omega
   simp only[Dr]at h2;rcases ht with rfl|rfl|rfl|rfl<;>simp only[Tm.den,CL,Dh,KC,Mf,KH,hpm,hi,hn0,e1,e2,Do,h2]<;>omega
  |false=>
   refine⟨_,Ft _ E4,common _ V V ?_⟩;intro t ht;simp only[Ao,AB,or_false]at ht;have e2:((18446744073709551616:Int)+i).toNat=EI+i:=by unfold EI;omega
   simp only[Dr]at h2;rcases ht with rfl|rfl<;>simp only[Tm.den,CL,Dh,KC,Mf,KH,hpm,hi,hn0,e2,h2]<;>omega
 by_cases hlt:i<u.l.length
 ·obtain⟨r,hr⟩:∃r,u.l[i]? =some r:=⟨_,Bm hlt⟩;rcases hur with h0|⟨rfl,_,_,hrep⟩
  ·rw[h0]at hlt;simp at hlt
  have hg:=(RepL.get hrep hr).1;rw[hu]at hg;obtain⟨k,s,m,rfl,m0,m1⟩:=Avb hg;have hcl:(eT 3).cells.length=3:=rfl;rw[hcl]at m0 m1;have hcall:=Go.Sx.c305s (w:=w) (p:=b) (i:=i) (k:=k) (s:=s) hB.blk (by omega) (λ_=>⟨u.b,u.o,rfl,(wok.hM _ _ _ m0).1,(wok.hM _ _ _ m1).1⟩);refine hcall.mono ?_;intro e w' he;cases e with
  |panicked ch=>exact he.elim
  |outgrown=>exact he.elim
  |returned rv=>
   obtain⟨rfl,f⟩:=he;have htag:pw eT u.l 3 (EI+i)=Dr (Ic i u.l.length k s):=by
    have hmc:1<=Az eT [[.int k,.str s,.int m]] 3:=by
     simp only[Az,WO,Ada,CP,Bl];have a1:=Je 1 k;have a2:=Je 1 m;have a3:=Acj 10000 10000 10000 s.size;omega
    unfold pw;rw[if_neg (by omega),show EI+i-EI=i from by omega,hr];unfold K2 Aab Ic;by_cases hk:k=3<;>by_cases hs:s=tagS<;>simp[hk,hs,hlt,Dr];subst hk;subst hs;omega
   refine fin _ w' f (λha=>⟨by omega,?_⟩) htag;have hs:s=tagS:=by
    simp only[Ic,Aq,decide_eq_true_eq]at ha;exact ha.2
   have hmb:=Nv;rw[EG (by omega),EG (by omega),Qp eT 3 hr,hs];simp only[WO,Ada,CP,Bl];have a1:=Je 1 k;have a2:=Je 1 m;have a3:CF 10000 10000 10000 tagS.size=20000:=by decide
   omega
 ·have hcall:=Go.Sx.c305s (w:=w) (p:=b) (i:=i) (k:=0) (s:=tagS) hB.blk (by omega) (λh=>absurd h hlt);refine hcall.mono ?_;intro e w' he;cases e with
  |panicked ch=>exact he.elim
  |outgrown=>exact he.elim
  |returned rv=>
   obtain⟨rfl,f⟩:=he;have hf:Ic i u.l.length 0 tagS=false:=by simp[Ic,hlt]
   rw[hf];refine fin false w' f (λh=>by cases h) ?_;unfold pw;rw[if_neg (by omega),show EI+i-EI=i from by omega];have:u.l[i]? =none:=List.getElem?_eq_none (by omega);rw[this];rfl
end Go.Ck