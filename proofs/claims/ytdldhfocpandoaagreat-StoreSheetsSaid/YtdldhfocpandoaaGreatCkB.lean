import Derived.Test.YtdldhfocpandoaaGreatCkA
import Derived.Great.FillDense
noncomputable section
set_option maxHeartbeats 8000000
set_option maxRecDepth 8000
namespace Go.Ck
open Go.Sx
def Lf:List (Nat×LE×Nat)->Nat->LE->Option Nat
 |[],_,_=>none
 |(j,f,s)::r,i,e=>match Nat.beq j i&&f.eqb e with
  |true=>some s
  |false=>Lf r i e
theorem TC:∀{l:List (Nat×LE×Nat)}{i:Nat}{e:LE}{s:Nat},Lf l i e=some s->(i,e,s)∈l
 |(j,f,u)::r,i,e,s,h=>by
  simp only[Lf]at h;split at h
  ·rename_i hb;cases h;simp only[Aq]at hb;rw[AH hb.1,Dp hb.2];exact E4
  ·exact Ft _ (TC h)
def Ar2:Int->Bool
 | .ofNat n=>Nat.blt n 4611686018427387904
 | .negSucc n=>Nat.blt n 4611686018427387904
def PQ(gs:List LE):List (Nat×LE×Nat)->Nat->LE->Option Nat
 |[],_,_=>none
 |(j,f,s)::r,i,e=>match Nat.beq j i&&Ar2 (f.c-e.c)&&BF gs 2 (.sub f e)&&BF gs 2 (.sub e f)with
  |true=>some s
  |false=>PQ gs r i e
def Fk(st:St)(i:Nat)(e:LE):Option Nat:=match Lf st.pres i e with
 |some s=>some s
 |none=>PQ st.facts st.pres i e
theorem Zo{ρ:Nat->Int}{gs:List LE}(hg:Holds ρ gs):∀{l:List (Nat×LE×Nat)}{i:Nat}{e:LE}{s:Nat},PQ gs l i e=some s->∃f,(i,f,s)∈l/\f.ev ρ=e.ev ρ
 |(j,f,u)::r,i,e,s,h=>by
  simp only[PQ]at h;split at h
  ·rename_i hb;cases h;simp only[Aq]at hb;have h1:=BU hg _ _ hb.1.2;have h2:=BU hg _ _ hb.2;simp only[LE.sub_ev]at h1 h2;rw[<-AH hb.1.1.1];exact⟨f,E4,by omega⟩
  ·obtain⟨f',h1,h2⟩:=Zo hg h;exact⟨f',Ft _ h1,h2⟩
theorem MS{st:St}{ρ:Nat->Int}(hg:Holds ρ st.facts){i:Nat}{e:LE}{s:Nat}(h:Fk st i e=some s):∃f,(i,f,s)∈st.pres/\f.ev ρ=e.ev ρ:=by
 unfold Fk at h;split at h
 ·rename_i hs;cases h;exact⟨e,TC hs,rfl⟩
 ·exact Zo hg h
def LJ(l:List SC)(ix:LE)(c:Int):List (Nat×Int)->LE
 |[]=>.k c
 |(v,k)::r=>.add (.mul k (match Nat.beq v 1000 with
  |true=>ix
  |false=>((l[v]?).map CC).getD (.k 0))) (LJ l ix c r)
theorem WF{ρ:Nat->Int}{l:List SC}{ix:LE}{j:Nat}{r:List CV}(hi:ix.ev ρ=j)(hn:∀i:Nat,((l[i]?).map λc=>(CC c).ev ρ)=(r[i]?).map CV.n)(c:Int):
 ∀f:List (Nat×Int),(LJ l ix c f).ev ρ=c+C5 (λi=>if i=1000 then(j:Int)else((r[i]?).map CV.n).getD 0) f
 |[]=>by simp[LJ,C5]
 |(v,k)::f=>by
  simp only[LJ,LE.add_ev,LE.mul_ev,WF hi hn c f,C5];have:(match Nat.beq v 1000 with|true=>ix|false=>((l[v]?).map CC).getD (.k 0)).ev ρ=if v=1000 then(j:Int)else((r[v]?).map CV.n).getD 0:=by
   split
   ·rename_i h;rw[if_pos (AH h),hi]
   ·rename_i h;rw[if_neg (λe=>by subst e;simp at h),<-hn v];cases l[v]?<;>simp
  rw[this];omega
def Qx(ts:List CT):Bool:=ts.all λt=>!V1 t
def upF(t:ET)(l:List SC)(s0 s1:Nat):List LE:=match t.up with
 |true=>match Oe t.cells l with
  |some u=>[.sub (.addk (.add u (.s s0)) t.base) (.s s1)]
  |none=>[]
 |false=>[]
def Wm(T:Ar)(st:St)(e i:Nat)(m d ix:LE)(k:Nat):Option Res:=
 match Lf st.rix i ix with
 |some r=>some (.only (.sc (.fp r 0)) k)
 |none=>
  match BZ (T e).cells (k+3)with
  |(l,fs,a,b,ds,k1)=>
   let s0:=(Fk st i ix).getD (k+1);let s1:=(Fk st i (ix.addk 1)).getD (k+2);let base:Int:=(T e).base;match Qx (T e).cells||(T e).inv.isEmpty with
   |false=>none
   |true=>some
    {ev:=.sc (.fp k 0),facts:=(⟨0,[(s0,1)]⟩:: .sub m (.s s1):: .sub (.sub (.addk (.s s1) (-base)) (.s s0)) a:: .sub (.sub (.addk (.s s1) (-base)) (.s s0)) b::((T e).inv.map λf=>LJ l ix f.c f.l)++fs)++upF (T e) l s0 s1,rows:=[(k,l)],pres:=[(i,ix,s0),(i,ix.addk 1,s1)],rix:=[(i,ix,k)],next:=k1}
section
variable{P:Program}{T:Ar}{X:Cx}{nt:Nat}{v:Val}{st:St}{a:Act}{w:World}
variable{x:Value}{r:Res}{m:LE}{e:Nat}
theorem As4(hp:Hp T X v st w){i:Nat}{n d ix:LE}(h:Wm T st e i m d ix st.next=some r){o:Option Nat}(hx:DC T v (.fz e i n m d o) x)(hio:i<st.next)(hxo:ix.ok st.next=true)
 (hmo:m.ok st.next=true) (hdo:d.ok st.next=true) {j:Nat} (hj:ix.ev v.ρ=j) (hl:j<(v.δ i).l.length):
 ∃v',ResOK T v st.next r (.pointer (some ⟨(v.δ i).b,(v.δ i).o+j*(T e).cells.length,none⟩)) v':=by
 obtain⟨he,⟨a0,cap,hxv,hlen,hrep⟩,hn,hm,hd,_⟩:=hx;have hbig:=Nv;have hne:(v.δ i).l≠[]:=λh0=>by rw[h0]at hl;simp at hl
 rcases hrep with h0|⟨ha0,hc1,hc2,hrep⟩
 ·exact absurd h0 hne
 unfold Wm at h;split at h
 ·rename_i r' hf;cases h;obtain⟨⟨j',h1,h2⟩,_⟩:=hp.rix _ (TC hf);have hjj:j'=j:=by simp only at h1;omega
  subst hjj;refine⟨v,ResOK.only ?_⟩;show DC T v (.fp _ _) _;simp only at h2;simp[DC,h2,he]
 ·rename_i hf;obtain⟨row,hrow⟩:∃row,(v.δ i).l[j]? =some row:=⟨_,Bm hl⟩;have hg:=RepL.get hrep hrow;rw[he]at hg;obtain⟨hR,hI⟩:=hg;simp only[BO]at hI;let s0:=Az T ((v.δ i).l.take j) e;let s1:=Az T ((v.δ i).l.take (j+1)) e;let v0:Val:={v with ρ:=λq=>if q<st.next then v.ρ q else if q=st.next+1 then s0 else s1,κ:=λq=>if q<st.next then v.κ q else((v.δ i).b,(v.δ i).o+j*(T e).cells.length)};have x0:Ext st.next v v0:=⟨λq hq=>by simp[v0,hq],λ_ _=>rfl,λ_ _=>rfl,λq hq=>by simp[v0,hq],λ_ _ _ h=>h,λ_ _ h=>h⟩;obtain⟨v1,S⟩:=Aa1 row (T e).cells _ _ (st.next+3) v0 (show RepR T v0.M v0.A _ _ _ _ from hR);have hx1:Ext st.next v v1:=x0.trans S.ext (by omega);have hs0:v1.ρ ((Fk st i ix).getD (st.next+1))=s0:=by
   cases hq:Fk st i ix with
   |none=>
    simp only[Option.getD_none];rw[S.ext.ρ _ (by omega)];have:¬st.next+1<st.next:=by omega
    simp[v0,this]
   |some q=>
    obtain⟨f,hf,hfe⟩:=MS hp.facts hq;obtain⟨⟨j',h1,h2⟩,h3⟩:=hp.pres _ hf;simp only[El,Aq,A_]at h3;simp only[KH];simp only at h1;rw[hfe]at h1;rw[hx1.ρ _ h3.2,h2];have:j'=j:=by omega
    rw[EG (by omega)];simp only[s0,this,he]
  have hs1:v1.ρ ((Fk st i (ix.addk 1)).getD (st.next+2))=s1:=by
   cases hq:Fk st i (ix.addk 1)with
   |none=>
    simp only[Option.getD_none];rw[S.ext.ρ _ (by omega)];have:¬st.next+2<st.next:=by omega
    simp[v0,this]
   |some q=>
    obtain⟨f,hf,hfe⟩:=MS hp.facts hq;obtain⟨⟨j',h1,h2⟩,h3⟩:=hp.pres _ hf;simp only[El,Aq,A_]at h3;simp only[KH];simp only at h1;rw[hfe]at h1;rw[hx1.ρ _ h3.2,h2];simp only[LE.addk_ev]at h1;have:j'=j+1:=by omega
    rw[EG (by omega)];simp only[s1,this,he]
  have hss:s1=s0+((T e).base+CP T row (T e).cells):=Qp T e hrow;have hs0n:0<=s0:=EE T _ _;have hs1m:s1<=Az T (v.δ i).l e:=Ko T e _ _;have hdr:=YO T e hrow;have hdn:=Po T row (T e).cells;have hm1:m.ev v1.ρ=Az T (v.δ i).l e:=by rw[Bj hx1.ρ hmo];exact hm
  have hd1:d.ev v1.ρ=Bi T (v.δ i).l e:=by rw[Bj hx1.ρ hdo];exact hd
  have hix1:ix.ev v1.ρ=j:=by rw[Bj hx1.ρ hxo];exact hj
  have hκ:v1.κ st.next=((v.δ i).b,(v.δ i).o+j*(T e).cells.length):=by
   rw[S.ext.κ _ (by omega)];simp[v0]
  have hδ:v1.δ i=v.δ i:=hx1.δ i hio;have hk1:=Jx (T e).cells (st.next+3);have Scells:=S.cells;have Sfacts:=S.facts;have Sa:=S.a;have Sb:=S.b;have Sd:=S.d;have Sn:=S.n;have Su:=S.u;generalize hmk:BZ (T e).cells (st.next+3)=mk at h Scells Sfacts Sa Sb Sd Sn Su hk1;obtain⟨l,fs,fa,fb,ds,k1⟩:=mk;simp only at h Scells Sfacts Sa Sb Sd Sn Su hk1;split at h
  ·cases h
  rename_i hnp;cases h;refine⟨v1,hx1,S.hM,S.hA,?_,?_,?_,?_,?_⟩
  ·show DC T v1 (.fp _ _) _;simp[DC,hκ]
  ·intro f hf;rcases B3.1 hf with hf|hf;rotate_left
   ·unfold upF at hf;split at hf
    ·split at hf
     ·rename_i u hu;simp only[Ao,AB,or_false]at hf;subst hf;have:=Su u hu;simp only[LE.sub_ev,LE.addk_ev,LE.add_ev,LE.s_ev,hs1,hs0];omega
     ·simp at hf
    ·simp at hf
   simp only[Ao,B3,BY,CL]at hf;rcases hf with rfl|rfl|rfl|rfl|⟨f',hf',rfl⟩|hf
   ·simp only[Dc,hs0];omega
   ·simp only[LE.sub_ev,LE.s_ev,hs1,hm1];omega
   ·simp only[LE.sub_ev,LE.addk_ev,LE.s_ev,hs1,hs0];omega
   ·simp only[LE.sub_ev,LE.addk_ev,LE.s_ev,hs1,hs0];omega
   ·rw[WF hix1 (r:=row) ?_]
    ·exact hI f' hf'
    ·intro q;rcases Sn q with h1|h1
     ·exact h1
     ·have hne':(T e).inv≠[]:=λh0=>by rw[h0]at hf';simp at hf'
      have hnp':Qx (T e).cells=true:=by
       cases hc:Qx (T e).cells with
       |true=>rfl
       |false=>
        rw[hc]at hnp;cases hc':(T e).inv with
        |nil=>exact absurd hc' hne'
        |cons a b=>rw[hc']at hnp;simp at hnp
      simp only[BG]at h1;obtain⟨t,h2,h3⟩:=h1;simp only[Qx,Bg]at hnp';have:=hnp' t (BA h2);rw[h3]at this;cases this
   ·exact Sfacts f hf
  ·intro p hpm;simp only[Ao,AB,or_false]at hpm;subst hpm;obtain⟨cs,h1,h2⟩:=Scells;refine⟨cs,h1,λq y hq=>?_⟩;rw[hκ,S.hM];exact h2 q y hq
  ·intro p hpm;simp only[Ao,AB,or_false]at hpm;rcases hpm with rfl|rfl
   ·exact⟨j,hix1,by rw[EG (by omega)];simp only[hs0,hδ,he,s0]⟩
   ·exact⟨j+1,by simp only[LE.addk_ev,hix1];omega,by rw[EG (by omega)];simp only[hs1,hδ,he,s1]⟩
  ·intro p hpm;simp only[Ao,AB,or_false]at hpm;subst hpm;exact⟨j,hix1,by simp only[hκ,hδ,he]⟩
def Vw(T:Ar)(ty:Nat->Option TI)(st:St)(t:Nat)(x y:SC):Option Res:=
 match ty t,y with
 |some ti,.int _ ix=>match ti.d with
  | .slice el=>match ty el with
   |some te=>match x with
    | .fz e i n m d _=>match Nat.beq te.size (T e).cells.length&&BF st.facts CD ix&&BF st.facts CD (.addk (.sub n ix) (-1))with
     |true=>Wm T st e i m d ix st.next
     |false=>none
    | .ar ik n=>match Nat.beq te.size 1&&BF st.facts CD ix&&BF st.facts CD (.addk (.sub n ix) (-1))with
     |true=>some (.only (.sc (.ap ik)) st.next)
     |false=>none
    |_=>none
   |none=>none
  |_=>none
 |_,_=>none
variable{n t cap len o b:Nat}
theorem ZQ{agg:Bool}{ik:IntKind}{i:Int}(ht:P.underlying t=some (.slice e))(he:AC P e agg n)(h0:0<=i)(h1:i<len)(w:World):
 (Instr.indexAt t (.slice (some ⟨b,o,none⟩) len cap) (.int ik i)).run P w= .ok (.pointer (some ⟨b,o+i.toNat*n,none⟩)) w:=by
 simp[Instr.indexAt,asIntOf,run_underlying ht,h0,h1,he.size,Addr.add_lit]
variable{vx:Value}{ty:Nat->Option TI}
theorem Aqq(hty:CB P ty)(hp:Hp T X v st w){x y:SC}(h:Vw T ty st t x y=some r){vy:Value}(hx:DC T v x vx)(hxo:x.ok st.next=true)(hy:DC T v y vy)(hyo:y.ok st.next=true):
 ∃z v',(∀w',(Instr.indexAt t vx vy).run P w'= .ok z w')/\ResOK T v st.next r z v':=by
 unfold Vw at h;split at h
 ·rename_i ti ik ix hti;split at h
  ·rename_i el hd;have u1:=(hty _ _ hti).d;rw[hd]at u1;split at h
   ·rename_i te hte;have u2:=(hty _ _ hte).ty;obtain⟨rfl,_⟩:=hy;split at h
    ·rename_i e i n m d o;split at h
     ·rename_i hb;simp only[Aq]at hb;have hsz:=AH hb.1.1;have p1:=BU hp.facts _ _ hb.1.2;have p2:=BU hp.facts _ _ hb.2;simp only[LE.addk_ev,LE.sub_ev]at p2;have hx':=hx;obtain⟨he,⟨a0,cap,rfl,hlen,hrep⟩,hn,_⟩:=hx';simp only[SC.ok,Aq,A_]at hxo;have hl:(ix.ev v.ρ).toNat<(v.δ i).l.length:=by omega
      obtain⟨v',hr⟩:=As4 hp h hx hxo.1.1.1.1 hyo hxo.1.1.2 hxo.1.2 (j:=(ix.ev v.ρ).toNat) (by omega) hl;rcases hrep with h0|⟨rfl,_,_,_⟩
      ·rw[h0]at hl;simp at hl
      refine⟨_,v',λw'=>?_,hr⟩;rw[ZQ u1 u2 p1 (by omega) w',hsz]
     ·cases h
    ·rename_i ik' n;split at h<;>cases h;rename_i hb;simp only[Aq]at hb;have hsz:=AH hb.1.1;have p1:=BU hp.facts _ _ hb.1.2;have p2:=BU hp.facts _ _ hb.2;simp only[LE.addk_ev,LE.sub_ev]at p2;obtain⟨j,h1,a0,cap,rfl,h2,h3,h4⟩:=hx;rcases h4 with⟨rfl,rfl⟩|⟨b,o,sz,rfl,h5,h6⟩
     ·omega
     refine⟨_,v,λw'=>ZQ u1 u2 p1 (by omega) w',ResOK.only ⟨b,_,sz,rfl,h5,?_⟩⟩;rw[hsz];omega
    ·cases h
   ·cases h
  ·cases h
 ·cases h
def SV(st:St)(x:SC):Option (List SC×Nat):=
 match x with
 | .vp g o=>match Ck.get st.mem g with
  |some p=>some (p.2,o)
  |none=>none
 | .fp r o=>match Ck.get st.rows r with
  |some p=>some (p,o)
  |none=>none
 |_=>none
def Nq(ty:Nat->Option TI)(st:St)(t:Nat)(x:SC)(k:Nat):Option Res:=
 match ty t with
 |some i=>
  match SV st x with
  |some (l,o)=>match i.agg with
   |true=>match Nat.ble (o+i.size) l.length with
    |true=>some (.only (.agg ((l.drop o).take i.size)) k)
    |false=>none
   |false=>match l[o]? with
    |some c=>some (.only (.sc c) k)
    |none=>none
  |none=>none
 |none=>none
def X6(v:Val)(w:World)(x:SC)(w':World):Prop:=match x with
 | .vp g _=>∀b,v.β g=some b->w'.heap[b]? =w.heap[b]?
 |_=>∀b o y,v.M b o=some y->w'.cell? ⟨b,o,none⟩=some y
variable{k:Nat}
theorem Aaj(hty:CB P ty)(hp:Hp T X v st w){x:SC}(h:Nq ty st t x k=some r)(hx:DC T v x vx):
 ∃z,(∀w',X6 v w x w'->(Instr.loadAt t vx).run P w'= .ok z w')/\ResOK T v k r z v:=by
 have key:∀{ti:TI}{l:List SC}{o b o':Nat}{cs:List Value}{r:Res},ty t=some ti->All2 (DC T v) l cs->(match ti.agg with
  |true=>match Nat.ble (o+ti.size) l.length with
   |true=>some (Res.only (.agg ((l.drop o).take ti.size)) k)
   |false=>none
  |false=>match l[o]? with
   |some c=>some (Res.only (.sc c) k)
   |none=>none)=some r->
  ∃z,(∀w',(∀j y,cs[j]? =some y->w'.cell? ⟨b,o'+j,none⟩=some y)->(Instr.loadAt t (.pointer (some ⟨b,o'+o,none⟩))).run P w'= .ok z w')/\ResOK T v k r z v:=by
  intro ti l o b o' cs r hti hl hr;have u:=(hty _ _ hti).ty;split at hr
  ·rename_i ha;split at hr<;>cases hr;rename_i hb;have hb:=CK hb;rw[hl.length]at hb;rw[ha]at u;refine⟨.agg ((cs.drop o).take ti.size).toArray,λw' hw=>?_,ResOK.only ⟨_,rfl,(hl.drop o).take _⟩⟩;simp only[Instr.loadAt,Instr.sureAddr,Sem.run_bind,Sem.run_pure,Result.andThen_ok];refine AS u (by simp;omega) ?_;intro j y hj;rw[Ea]at hj;split at hj
   ·rw[He]at hj;rw[Fe];exact hw _ _ hj
   ·cases hj
  ·rename_i ha;split at hr<;>cases hr;rename_i c hc;obtain⟨y,h1,h2⟩:=hl.get hc;rw[ha]at u;refine⟨y,λw' hw=>?_,ResOK.only h2⟩;simp only[Instr.loadAt,Instr.sureAddr,Sem.run_bind,Sem.run_pure,Result.andThen_ok];exact Ai u (hw _ _ h1)
 unfold Nq at h;split at h
 ·rename_i ti hti;split at h
  ·rename_i l o hm;unfold SV at hm;split at hm
   ·rename_i g o2;split at hm<;>cases hm;rename_i p h1;obtain⟨t',l'⟩:=p;obtain⟨⟨b,cs,e1,e2,e3,e4,_⟩,_⟩:=hp.mem _ (Eh h1);obtain⟨b',e5,rfl⟩:=hx;simp only at e1;rw[e1]at e5;cases e5;obtain⟨z,k1,k2⟩:=key (b:=b) (o':=0) hti e3 h;refine⟨z,λw' hw=>?_,k2⟩;have:=k1 w' (λj y hj=>?_)
    ·simpa using this
    ·have hb:w'.heap[b]? =w.heap[b]? :=hw b e1;have hB:Blk w' b cs t':=hb.trans e2;rw[hB.cell,BO];exact hj
   ·rename_i r' o2;split at hm<;>cases hm;rename_i l' h1;obtain⟨⟨cs,e1,e2⟩,_⟩:=hp.rows _ (Eh h1);cases hx;obtain⟨z,k1,k2⟩:=key (b:=(v.κ r').1) (o':=(v.κ r').2) hti e1 h;exact⟨z,λw' hw=>k1 w' λj y hj=>hw _ _ _ (e2 j y hj),k2⟩
   ·cases hm
  ·cases h
 ·cases h
end
def OT(st:St)(x:Option Operand)(d:LE):Option LE:=
 match x with
 |none=>some d
 |some y=>match BT st y with
  |some (.int _ e)=>some e
  |_=>none
def W2(T:Ar)(ty:Nat->Option TI)(st:St)(t:Nat)(x:SC)(lo hi:LE)(k:Nat):Option Res:=
 match ty t with
 |some ti=>
  match BF st.facts CD lo&&BF st.facts CD (.sub hi lo)with
  |false=>none
  |true=>
   match x,ti.d with
   | .str n,.str=>match BF st.facts CD (.sub n hi)with
    |true=>some (.only (.sc (.str (.sub hi lo))) k)
    |false=>none
   | .ar ik n,.slice el=>match ty el with
    |some te=>match Nat.beq te.size 1&&BF st.facts CD (.sub n hi)with
     |true=>some (.only (.sc (.ar ik (.sub hi lo))) k)
     |false=>none
    |none=>none
   | .fz e i n m d _,.slice el=>match ty el with
    |some te=>match Nat.beq te.size (T e).cells.length&&Kq (T e).inv&&BF st.facts CD (.sub n hi)with
     |true=>
      let a:=(Fk st i lo).getD (k+2);let b:=(Fk st i hi).getD (k+3);some {ev:=.sc (.fz e k (.sub hi lo) (.sub (.s b) (.s a)) (.s (k+1)) none),facts:=[⟨0,[(k+1,1)]⟩,.sub d (.s (k+1)),.s a,.sub m (.s b),.sub (.s b) (.s a)]++(match LE.eqb hi n with|true=>[.sub (.s b) m]|false=>[])++(match LE.eqb lo (.k 0)with|true=>[.neg (.s a)]|false=>[]),rows:=[],pres:=[(i,lo,a),(i,hi,b)],rix:=[],next:=k+4}
     |false=>none
    |none=>none
   |_,_=>none
 |none=>none
section
variable{P:Program}{T:Ar}{X:Cx}{nt:Nat}{v:Val}{st:St}{a:Act}{w:World}
variable{cap len:Nat}
theorem run_bounds{isS:Bool}{lo hi:Option Value}{l h:Int}(hl:match lo with|none=>l=0|some y=>∃ik,y= .int ik l)(hh:match hi with|none=>h=len|some y=>∃ik,y= .int ik h)
 (h0:0<=l) (h1:l<=h) (h2:h<=cap) (w:World):(Instr.sliceBounds isS len cap lo hi none).run P w= .ok (l.toNat,h.toNat,cap) w:=by
 cases lo with
 |none=>
  cases hi with
  |none=>simp only at hl hh;subst hl hh;simp[Instr.sliceBounds]
  |some y=>
   obtain⟨ik,rfl⟩:=hh;simp only at hl;subst hl;have:0<=h:=by omega
   simp[Instr.sliceBounds,Instr.sliceBound,asIntOf,this,h2]
 |some z=>
  obtain⟨ik',rfl⟩:=hl;cases hi with
  |none=>
   simp only at hh;subst hh;simp[Instr.sliceBounds,Instr.sliceBound,asIntOf,h0,h1]
  |some y=>
   obtain⟨ik,rfl⟩:=hh;have:0<=h:=by omega
   have h3:l<=(h.toNat:Int):=by omega
   have h5:l<=max h 0:=by omega
   simp[Instr.sliceBounds,Instr.sliceBound,asIntOf,this,h2,h0,h3,h5];try omega
variable{vx:Value}{r:Res}{t:Nat}{ty:Nat->Option TI}
theorem At9(hty:CB P ty)(hp:Hp T X v st w){x:SC}{lo hi:LE}(h:W2 T ty st t x lo hi st.next=some r)(hx:DC T v x vx)(hxo:x.ok st.next=true)
 (hlo:lo.ok st.next=true) (hho:hi.ok st.next=true) {vl vh:Option Value} (hvl:match vl with|none=>lo.ev v.ρ=0|some y=>∃ik,y= .int ik (lo.ev v.ρ))
 (hvh:match vh with|none=>hi=CC x|some y=>∃ik,y= .int ik (hi.ev v.ρ)):
 ∃z v',(∀w',(Instr.sliceAt t vx vl vh none).run P w'= .ok z w')/\ResOK T v st.next r z v':=by
 unfold W2 at h;split at h
 ·rename_i ti hti;split at h
  ·cases h
  rename_i hb;simp only[Aq]at hb;have p0:=BU hp.facts _ _ hb.1;have p1:=BU hp.facts _ _ hb.2;simp only[LE.sub_ev]at p1;split at h
  ·rename_i n hd;have u1:=(hty _ _ hti).d;rw[hd]at u1;split at h<;>cases h;rename_i hc;have p2:=BU hp.facts _ _ hc;simp only[LE.sub_ev]at p2;obtain⟨s,rfl,h3,h4⟩:=hx;refine⟨.string (s.extract (lo.ev v.ρ).toNat (hi.ev v.ρ).toNat),v,λw'=>?_,ResOK.only ⟨_,rfl,?_,?_⟩⟩
   ·have hbo:=λw=>run_bounds (P:=P) (isS:=false) (len:=s.size) (cap:=s.size) (lo:=vl) (hi:=vh) (l:=lo.ev v.ρ) (h:=hi.ev v.ρ) hvl (by
     cases vh with
     |none=>simp only at hvh⊢;rw[hvh,h3];rfl
     |some y=>exact hvh) p0 (by omega) (by omega) w
    simp[Instr.sliceAt,Instr.slice,run_underlying u1,hbo]
   ·simp only[ByteArray.size_extract,LE.sub_ev];omega
   ·simp only[ByteArray.size_extract];omega
  ·rename_i ik n el hd;have u1:=(hty _ _ hti).d;rw[hd]at u1;split at h
   ·rename_i te hte;have u2:=(hty _ _ hte).ty;split at h<;>cases h;rename_i hc;simp only[Aq]at hc;have hsz:=AH hc.1;have p2:=BU hp.facts _ _ hc.2;simp only[LE.sub_ev]at p2;obtain⟨j,h3,aa,cap,rfl,h4,h5,h6⟩:=hx;have hbo:=λw=>run_bounds (P:=P) (isS:=true) (len:=j) (cap:=cap) (lo:=vl) (hi:=vh) (l:=lo.ev v.ρ) (h:=hi.ev v.ρ) hvl (by
     cases vh with
     |none=>simp only at hvh⊢;rw[hvh];exact h3
     |some y=>exact hvh) p0 (by omega) (by omega) w
    refine⟨.slice (if cap=(lo.ev v.ρ).toNat then aa else aa.map (·.add ((lo.ev v.ρ).toNat*te.size))) ((hi.ev v.ρ).toNat-(lo.ev v.ρ).toNat) (cap-(lo.ev v.ρ).toNat),v,λw'=>?_,ResOK.only ?_⟩
    ·simp[Instr.sliceAt,Instr.slice,run_underlying u1,hbo,u2.size]
    ·refine⟨(hi.ev v.ρ).toNat-(lo.ev v.ρ).toNat,by simp only[LE.sub_ev];omega,_,_,rfl,by omega,by omega,?_⟩;rcases h6 with⟨rfl,rfl⟩|⟨b,o,sz,rfl,h7,h8⟩
     ·left;refine⟨?_,by omega⟩;split<;>rfl
     ·right;split
      ·exact⟨b,o,sz,rfl,h7,by omega⟩
      ·refine⟨b,o+(lo.ev v.ρ).toNat,sz,?_,h7,by omega⟩;simp[hsz,Addr.add_lit]
   ·cases h
  ·rename_i e i n m d ow el hd;have u1:=(hty _ _ hti).d;rw[hd]at u1;split at h
   ·rename_i te hte;have u2:=(hty _ _ hte).ty;split at h<;>cases h;rename_i hc;simp only[Aq]at hc;have hsz:=AH hc.1.1;have hinv:Kq (T e).inv=true:=hc.1.2;have p2:=BU hp.facts _ _ hc.2;simp only[LE.sub_ev]at p2;obtain⟨he,⟨aa,cap,rfl,hlen,hrep⟩,hn,hm,hdd,_⟩:=hx;simp only[SC.ok,Aq,A_]at hxo;obtain⟨⟨⟨⟨hio,hno⟩,hmo⟩,hdo⟩,_⟩:=hxo;have hbig:=Nv;have hll:(v.δ i).l.length<=cap\/(v.δ i).l=[]:=by
     rcases hrep with h0|h0
     ·exact .inr h0
     ·exact .inl h0.2.1
    have hlc:hi.ev v.ρ<=cap:=by
     rcases hll with h0|h0
     ·omega
     ·have:hi.ev v.ρ=0:=by rw[h0]at hn;simp at hn;omega
      omega
    have hbo:=λw=>run_bounds (P:=P) (isS:=true) (len:=(v.δ i).l.length) (cap:=cap) (lo:=vl) (hi:=vh) (l:=lo.ev v.ρ) (h:=hi.ev v.ρ) hvl (by
     cases vh with
     |none=>simp only at hvh⊢;rw[hvh];exact hn
     |some y=>exact hvh) p0 (by omega) hlc w
    obtain⟨l,hl⟩:∃l:Nat,lo.ev v.ρ=l:=⟨(lo.ev v.ρ).toNat,by omega⟩;obtain⟨hh,hhi⟩:∃h:Nat,hi.ev v.ρ=h:=⟨(hi.ev v.ρ).toNat,by omega⟩;have hl':(lo.ev v.ρ).toNat=l:=by omega
    have hh':(hi.ev v.ρ).toNat=hh:=by omega
    rw[hl',hh']at hbo;let L:=((v.δ i).l.drop l).take (hh-l);have hLl:L.length=hh-l:=by simp[L];omega
    have hdec:(v.δ i).l.take hh=(v.δ i).l.take l++L:=by
     have:hh=l+(hh-l):=by omega
     rw[this,List.take_add]
    have hmL:Az T L e=Az T ((v.δ i).l.take hh) e-Az T ((v.δ i).l.take l) e:=by rw[hdec,Ju];omega
    have hdL:Bi T L e<=Bi T (v.δ i).l e:=by
     have h9:=Pn T e ((v.δ i).l.take hh) ((v.δ i).l.drop hh);rw[IG,hdec,Pn]at h9;omega
    let v1:Val:={v with
     ρ:=λq=>if q<st.next then v.ρ q else if q=st.next+1 then Bi T L e else if q=st.next+2 then Az T ((v.δ i).l.take l) e else Az T ((v.δ i).l.take hh) e
     δ:=λq=>if q<st.next then v.δ q else⟨e,L,(v.δ i).b,(v.δ i).o+l*(T e).cells.length⟩}
    have x1:Ext st.next v v1:=⟨λq hq=>by simp[v1,hq],λq hq=>by simp[v1,hq],λ_ _=>rfl,λ_ _=>rfl,λ_ _ _ h=>h,λ_ _ h=>h⟩;have r1:v1.ρ (st.next+1)=Bi T L e:=by
     have:¬st.next+1<st.next:=by omega
     simp[v1,this]
    have hδi:v1.δ i=v.δ i:=x1.δ i hio;have ha:v1.ρ ((Fk st i lo).getD (st.next+2))=Az T ((v.δ i).l.take l) e:=by
     cases hq:Fk st i lo with
     |none=>
      have:¬st.next+2<st.next:=by omega
      simp[v1,this]
     |some q=>
      obtain⟨f9,hf9,hfe9⟩:=MS hp.facts hq;obtain⟨⟨j',h1,h2⟩,h3⟩:=hp.pres _ hf9;simp only[El,Aq,A_]at h3;simp only[KH];rw[x1.ρ _ h3.2,h2];simp only at h1;rw[hfe9]at h1;have:j'=l:=by omega
      rw[EG (by omega)];simp only[this,he]
    have hb':v1.ρ ((Fk st i hi).getD (st.next+3))=Az T ((v.δ i).l.take hh) e:=by
     cases hq:Fk st i hi with
     |none=>
      have:¬st.next+3<st.next:=by omega
      simp[v1,this]
     |some q=>
      obtain⟨f9,hf9,hfe9⟩:=MS hp.facts hq;obtain⟨⟨j',h1,h2⟩,h3⟩:=hp.pres _ hf9;simp only[El,Aq,A_]at h3;simp only[KH];rw[x1.ρ _ h3.2,h2];simp only at h1;rw[hfe9]at h1;have:j'=hh:=by omega
      rw[EG (by omega)];simp only[this,he]
    have hlo1:lo.ev v1.ρ=l:=by rw[Bj x1.ρ hlo];exact hl
    have hhi1:hi.ev v1.ρ=hh:=by rw[Bj x1.ρ hho];exact hhi
    refine⟨.slice (if cap=l then aa else aa.map (·.add (l*te.size))) (hh-l) (cap-l),v1,λw'=>?_,x1,rfl,rfl,?_,?_,by simp,?_,by simp⟩
    ·simp[Instr.sliceAt,Instr.slice,run_underlying u1,hbo,u2.size]
    ·show DC T v1 (.fz _ _ _ _ _ _) _;have hd0:v1.δ st.next=⟨e,L,(v.δ i).b,(v.δ i).o+l*(T e).cells.length⟩:=by simp[v1]
     refine⟨by rw[hd0],?_,?_,?_,?_,by simp⟩
     ·rw[hd0];refine⟨_,_,by rw[hLl],by simp only[hLl];omega,?_⟩;by_cases hz:L=[]
      ·exact .inl hz
      ·right;have hne:(v.δ i).l≠[]:=λh0=>hz (by simp[L,h0]);rcases hrep with h0|⟨rfl,c1,c2,hR⟩
       ·exact absurd h0 hne
       have hlz:0<L.length:=List.length_pos_iff.2 hz;rw[hLl]at hlz;have hcl:¬cap=l:=by omega
       refine⟨by simp[hcl,Addr.add_lit,hsz],by simp only[hLl];omega,by omega,?_⟩;have h9:=(RepL.drop hinv (by rw[he]at hR;exact hR) l 0).take (hh-l);exact h9
     ·rw[hd0];simp only[LE.sub_ev,hlo1,hhi1,hLl];omega
     ·rw[hd0];simp only[LE.sub_ev,LE.s_ev,ha,hb',hmL]
     ·rw[hd0,LE.s_ev,r1]
    ·have hm1:m.ev v1.ρ=Az T (v.δ i).l e:=by rw[Bj x1.ρ hmo];exact hm
     have hd1:d.ev v1.ρ=Bi T (v.δ i).l e:=by rw[Bj x1.ρ hdo];exact hdd
     have hn1:n.ev v1.ρ=(v.δ i).l.length:=by rw[Bj x1.ρ hno];exact hn
     have q1:=IZ T e L;have q2:=EE T ((v.δ i).l.take l) e;have q3:=Ko T e (v.δ i).l hh;have q4:=EE T L e;intro f hf;simp only[B3,Ao,AB,or_false]at hf;rcases hf with((rfl|rfl|rfl|rfl|rfl)|hf)|hf
     ·simp only[Dc,r1];omega
     ·simp only[LE.sub_ev,LE.s_ev,r1,hd1];omega
     ·simp only[LE.s_ev,ha];omega
     ·simp only[LE.sub_ev,LE.s_ev,hb',hm1];omega
     ·simp only[LE.sub_ev,LE.s_ev,hb',ha];omega
     ·split at hf
      ·rename_i hq;simp only[Ao,AB,or_false]at hf;subst hf;have:=Dp hq;have hq2:hh=(v.δ i).l.length:=by rw[<-this]at hn1;omega
       simp only[LE.sub_ev,LE.s_ev,hb',hm1,hq2,E5];omega
      ·simp at hf
     ·split at hf
      ·rename_i hq;simp only[Ao,AB,or_false]at hf;subst hf;have:=Dp hq;have hq2:l=0:=by rw[this,LE.k_ev]at hlo1;omega
       simp only[LE.neg_ev,LE.s_ev,ha,hq2,HQ,Az];omega
      ·simp at hf
    ·intro p hpm;simp only[Ao,AB,or_false]at hpm;rcases hpm with rfl|rfl
     ·exact⟨l,hlo1,by rw[EG (by omega)];simp only[ha,hδi,he]⟩
     ·exact⟨hh,hhi1,by rw[EG (by omega)];simp only[hb',hδi,he]⟩
   ·cases h
  ·cases h
 ·cases h
end
theorem Zt(f:Nat):∀(vs:List Value) (off j:Nat) (cells:Array Value),off+j+vs.length<=cells.size->
 ((vs.zipIdx j).foldl (λ(cs:Array Value) (p:Value×Nat)=>cs.setIfInBounds (off+p.2) p.1) cells).toList=cells.toList.take (off+j)++vs++cells.toList.drop (off+j+vs.length)
 |[],off,j,cells,h=>by simp
 |x::vs,off,j,cells,h=>by
  simp only[Cg]at h;simp only[O7,List.foldl_cons];rw[Zt f vs off (j+1) _ (by simp;omega)];have hl:off+j<cells.toList.length:=by simp;omega
  simp only[Array.toList_setIfInBounds];rw[show off+(j+1)=off+j+1 from by omega,List.take_set,List.drop_set];have h1:(cells.toList.take (off+j+1)).set (off+j) x=cells.toList.take (off+j)++[x]:=by
   rw[List.take_succ_eq_append_getElem hl,List.set_append_right _ _ (by simp;omega)];have hmin:off+j-min (off+j) cells.size=0:=by omega
   simp[hmin]
  rw[h1,if_pos (by omega)];simp[Cg,R_,Nat.add_left_comm,Fe]
def EV.cells:EV->Option (List SC)
 | .sc c=>some [c]
 | .agg l=>some l
 | .tup _=>none
def L5(st:St):List (Nat×Operand)->Option (List (Nat×List SC))
 |[]=>some []
 |(i,x)::r=>match(DO st x).bind EV.cells,L5 st r with
  |some l,some ps=>some ((i,l)::ps)
  |_,_=>none
def N8(fs:List (Nat×Nat)):List (Nat×List SC)->List SC->Option (List SC)
 |[],cells=>some cells
 |(i,p)::r,cells=>match fs[i]? with
  |some (off,sz)=>match Nat.beq p.length sz&&Nat.ble (off+sz) cells.length with
   |true=>N8 fs r (cells.take off++p++cells.drop (off+sz))
   |false=>none
  |none=>none
def SB(ty:Nat->Option TI)(st:St)(t:Nat)(parts:List (Nat×Operand))(k:Nat):Option Res:=
 match ty t with
 |some i=>match i.d with
  | .struct fs=>match JP i.zero,L5 st parts with
   |some z,some ps=>match N8 fs ps z with
    |some l=>some (.only (.agg l) k)
    |none=>none
   |_,_=>none
  |_=>none
 |none=>none
section
variable{P:Program}{T:Ar}{X:Cx}{nt:Nat}{v:Val}{st:St}{a:Act}{w:World}
variable{x:Value}{l:List SC}
theorem DE.cells{e:EV}(he:e.cells=some l)(hx:DE T v e x):All2 (DC T v) l x.cells.toList:=by
 cases e with
 |sc c=>
  cases he;have h1:=DC.one (show DC T v c x from hx);have:x.cells=#[x]:=by cases x<;>simp_all[Value.cells,Value.oneCell']
  rw[this];exact⟨hx,trivial⟩
 |agg l'=>
  cases he;obtain⟨cs,rfl,h⟩:=hx;simpa[Value.cells]using h
 |tup=>cases he
theorem VY(h:Den T X nt v st a w):∀{l:List (Nat×Operand)}{ps:List (Nat×List SC)},L5 st l=some ps->
 All2 (λp q=>p.1=q.1/\All2 (DC T v) p.2 q.2.cells.toList/\p.2.all (SC.ok st.next)=true) ps (l.map λp=>(p.1,a.eval p.2))
 |[],ps,hl=>by simp only[L5]at hl;cases hl;trivial
 |(i,x)::l,ps,hl=>by
  simp only[L5]at hl;split at hl
  ·rename_i l' ps' h1 h2;cases hl;simp only[BV]at h1;obtain⟨e,h3,h4⟩:=h1;have h5:=Gz h h3;refine⟨⟨rfl,DE.cells h4 h5.1,?_⟩,VY h h2⟩;cases e with
   |sc c=>cases h4;show(SC.ok st.next c&&true)=true;rw[Om];exact h5.2
   |agg l=>cases h4;exact h5.2
   |tup=>cases h4
  ·cases hl
theorem Zn{fs:List (Nat×Nat)}:∀{ps:List (Nat×List SC)}{l l':List SC}{vs:List (Nat×Value)}{cells:Array Value},N8 fs ps l=some l'->All2 (DC T v) l cells.toList->
 All2 (λp q=>p.1=q.1/\All2 (DC T v) p.2 q.2.cells.toList/\p.2.all (SC.ok st.next)=true) ps vs->∃cells',Instr.fill (λi=>fs.toArray[i]?) cells vs=some cells'/\All2 (DC T v) l' cells'.toList
 |[],l,l',vs,cells,h,hl,hv=>by
  cases vs with
  |nil=>simp only[N8]at h;cases h;exact⟨cells,rfl,hl⟩
  |cons=>exact hv.elim
 |(i,p)::ps,l,l',vs,cells,h,hl,hv=>by
  cases vs with
  |nil=>exact hv.elim
  |cons q vs=>
   obtain⟨j,x⟩:=q;obtain⟨⟨h1,h2,_⟩,h3⟩:=hv;simp only at h1 h2;subst h1;simp only[N8]at h;split at h
   ·rename_i off sz hf;split at h
    ·rename_i hb;simp only[Aq]at hb;have hp:=AH hb.1;have hle:=CK hb.2;have e1:=h2.length;have e2:=hl.length;simp only[FH]at e1 e2;have hsz:x.cells.size=sz:=by omega
     have hfit:off+sz<=cells.size:=by omega
     have hfold:=Zt 0 x.cells.toList off 0 cells (by simp;omega);have harr:(x.cells.zipIdx.foldl (λ(cs:Array Value) (p:Value×Nat)=>cs.setIfInBounds (off+p.2) p.1) cells).toList=cells.toList.take off++x.cells.toList++cells.toList.drop (off+sz):=by
      rw[<-Array.foldl_toList,Array.toList_zipIdx];simpa[hsz]using hfold
     have hall:All2 (DC T v) (l.take off++p++l.drop (off+sz)) (x.cells.zipIdx.foldl (λ(cs:Array Value) (p:Value×Nat)=>cs.setIfInBounds (off+p.2) p.1) cells).toList:=by
      rw[harr];exact((hl.take off).append h2).append (hl.drop (off+sz))
     obtain⟨cells',h4,h5⟩:=Zn h hall h3;refine⟨cells',?_,h5⟩;have hf':fs.toArray[i]? =some (off,sz):=by simpa using hf
     have hn:¬(x.cells.size≠sz\/off+x.cells.size>cells.size):=by omega
     simp only[Instr.fill,hf'];rw[if_neg (by simpa using hn)];exact h4
    ·cases h
   ·cases h
variable{r:Res}{t k:Nat}{ty:Nat->Option TI}
theorem Afa(hty:CB P ty)(h:Den T X nt v st a w){parts:List (Nat×Operand)}(hr:SB ty st t parts k=some r):
 ∃z,(∀w',(Instr.build t (parts.map λp=>(p.1,a.eval p.2)).toArray).run P w'= .ok z w')/\ResOK T v k r z v:=by
 unfold SB at hr;split at hr
 ·rename_i i hi;split at hr
  ·rename_i fs hd;have I:=hty _ _ hi;have u:=I.d;rw[hd]at u;obtain⟨fields,u1,u2,_⟩:=u;split at hr
   ·rename_i z ps hz hps;split at hr<;>cases hr;rename_i l hl;obtain⟨z0,z1,z2,_⟩:=I.zv;obtain⟨cells',e1,e2⟩:=Zn (st:=st) hl (cells:=i.zero.toArray) (by simpa using(OP (T:=T) (v:=v) 0 hz).1) (VY h hps);refine⟨.agg cells',λw'=>?_,ResOK.only ⟨cells'.toList,by simp,e2⟩⟩;simp only[Instr.build,Sem.run_bind,z1,Result.andThen_ok,run_underlying u1,u2,z2,e1,O6,Sem.run_pure]
   ·cases hr
  ·cases hr
 ·cases hr
inductive RD where
 |no
 |blk (g:Nat)
 |row
def Wg(st:St):Op->RD
 | .load _ x=>match BT st x with
  |some (.vp g _)=>.blk g
  |_=>.row
 |_=>.no
def Q4(T:Ar)(ty:Nat->Option TI)(st:St):Op->Option Res
 | .move x=>(DO st x).map λe=>.only e st.next
 | .assign x=>(DO st x).map λe=>.only e st.next
 | .binOp op _ x y _=>match BT st x,BT st y with
  |some c,some d=>S_ st.facts op c d st.next
  |_,_=>none
 | .unOp op _ x=>(BT st x).bind λc=>WR st.facts op c st.next
 | .convert s t x=>(BT st x).bind λc=>Ta ty st.facts s t c st.next
 | .index t x y=>match BT st x,BT st y with
  |some c,some d=>Vx ty st.facts t c d st.next
  |_,_=>none
 | .extract x i=>(DO st x).bind λe=>T6 e i st.next
 | .fieldAddr s x f=>(BT st x).bind λc=>T9 ty s c f st.next
 | .nilCheck x=>(BT st x).bind λc=>Aa3 c st.next
 | .indexAddr t x y=>match BT st x,BT st y with
  |some c,some d=>Vw T ty st t c d
  |_,_=>none
 | .slice t x lo hi none=>match BT st x with
  |some c=>match OT st lo (.k 0),OT st hi (CC c)with
   |some l,some h=>W2 T ty st t c l h st.next
   |_,_=>none
  |none=>none
 | .build t parts=>SB ty st t parts.toList st.next
 | .load t x=>(BT st x).bind λc=>Nq ty st t c st.next
 | .call c=>match c.callee with
  | .builtin .len=>match c.args.toList,c.argTypes.toList with
   |[x],[t]=>(BT st x).bind λd=>V6 ty t d st.next
   |_,_=>none
  |_=>none
 |_=>none
def SeesO(v:Val)(w:World)(st:St)(op:Op)(w':World):Prop:=match Wg st op with
 | .no=>True
 | .blk g=>∀b,v.β g=some b->w'.heap[b]? =w.heap[b]?
 | .row=>∀b o y,v.M b o=some y->w'.cell? ⟨b,o,none⟩=some y
variable{vx:Value}
theorem Ae8{gs:List LE}(hg:Holds v.ρ gs){op:BinOp}{x y:SC}(h:S_ gs op x y k=some r){vy:Value}(hx:DC T v x vx)(hxo:x.ok k=true)(hy:DC T v y vy)(t:Nat)(ox oy:Operand):
 ∃z v',(∀w,(do eqGuard op t ox oy vx vy;binOp op t vx vy:Sem Value).run P w= .ok z w)/\ResOK T v k r z v':=by
 unfold S_ at h;split at h
 ·rename_i ik e ik' f;split at h
  ·rename_i hsh;have hop:op= .shr:=by cases op<;>first|rfl|cases hsh
   subst hop;obtain⟨rfl,h1⟩:=hx;obtain⟨rfl,h2⟩:=hy;obtain⟨z,v',h3,h4⟩:=At7 (P:=P) (T:=T) hg h t (ik':=ik') h1 hxo;refine⟨z,v',λw=>?_,h4⟩;have he:eqGuard .shr t ox oy (.int ik (e.ev v.ρ)) (.int ik' (f.ev v.ρ))=pure ():=rfl;simp only[he,Sem.run_bind,Sem.run_pure,Result.andThen_ok];exact h3 w
  split at h
  ·rename_i hk;have hk:ik=ik':=by simpa[ZM]using hk
   subst hk;obtain⟨rfl,h1⟩:=hx;obtain⟨rfl,h2⟩:=hy;obtain⟨z,v',h3,h4⟩:=Ae7 (P:=P) hg h t h1 h2 hxo;refine⟨z,v',λw=>?_,h4⟩;have he:eqGuard op t ox oy (.int ik (e.ev v.ρ)) (.int ik (f.ev v.ρ))=pure ():=by unfold eqGuard;cases op<;>rfl
   simp only[he,Sem.run_bind,Sem.run_pure,Result.andThen_ok];exact h3 w
  ·cases h
 ·rename_i e f;obtain⟨s,rfl,h1,h1'⟩:=hx;obtain⟨u,rfl,h2,h2'⟩:=hy;have he:eqGuard op t ox oy (.string s) (.string u)=pure ():=by unfold eqGuard;cases op<;>rfl
  simp only[he,Sem.run_bind,Sem.run_pure,Result.andThen_ok];have hemp:(Kb e||Kb f)=true->(e.ev v.ρ=f.ev v.ρ↔s=u):=by
   intro hh;have:e.ev v.ρ=0\/f.ev v.ρ=0:=by
    simp only[HM]at hh;rcases hh with hh|hh<;>unfold Kb at hh<;>split at hh
    ·rename_i c hc;exact .inl ((Fc hc _).trans (Hy hh))
    ·cases hh
    ·rename_i c hc;exact .inr ((Fc hc _).trans (Hy hh))
    ·cases hh
   constructor
   ·intro h9;have e1:s.size=0:=by omega
    have e2:u.size=0:=by omega
    cases s;cases u;congr 1;exact(Array.eq_empty_of_size_eq_zero e1).trans (Array.eq_empty_of_size_eq_zero e2).symm
   ·intro h9;subst h9;omega
  have hlist:(s.toList==u.toList)=true↔s=u:=by
   constructor
   ·intro h9;have h9:s.toList=u.toList:=by simpa using h9
    rw[ByteArray.toList_eq,ByteArray.toList_eq]at h9;exact ByteArray.ext (DB.mp h9)
   ·intro h9;subst h9;simp
  unfold binStr at h;split at h
  ·split at h<;>cases h;rename_i hp;have:=BU hg _ _ hp;simp only[LE.sub_ev,LE.k_ev]at this;have hm:=VD;have hn:¬((s.size+u.size:Nat):Int)>IntKind.i64.max:=by
    have:IntKind.i64.max=9223372036854775807:=by decide
    omega
   refine⟨_,v,λw=>by simp only[binOp,Op.stringOp,if_neg hn];rfl,ResOK.only ⟨_,rfl,?_,?_⟩⟩
   ·simp only[LE.add_ev,LZ];omega
   ·simp only[LZ];omega
  ·refine⟨.bool (s.toList==u.toList),v,λw=>by simp[binOp,Op.stringOp],?_⟩;split at h<;>cases h
   ·rename_i hh;refine ResOK.only ⟨_,rfl,?_⟩;simp only[BE.rel,LE.sub_ev,hlist,<-hemp hh];omega
   ·refine ResOK.only ⟨_,rfl,?_⟩;simp only[BE.rel,LE.sub_ev,hlist];intro h9;subst h9;omega
  ·refine⟨.bool (!(s.toList==u.toList)),v,λw=>by simp[binOp,Op.stringOp],?_⟩;split at h<;>cases h
   ·rename_i hh;refine ResOK.only ⟨_,rfl,?_⟩;simp only[BE.rel,LE.sub_ev,Oo,hlist,<-hemp hh];omega
   ·refine ResOK.only ⟨_,rfl,?_⟩;simp only[BE.rel,LE.sub_ev,Oo,hlist];intro h9;subst h9;omega
  ·cases h
 ·rename_i e q f;obtain⟨rfl,h1,hq⟩:=hx;obtain⟨rfl,h2⟩:=hy;split at h
  ·rename_i c hc;cases h;have hc:=Fc hc v.ρ;refine⟨.bool (e.ev v.ρ==f.ev v.ρ),v,λw=>by simp[eqGuard,binOp,Op.intCmp],ResOK.only ⟨_,rfl,?_⟩⟩;simp only[BE.rel,LE.addk_ev,beq_iff_eq,beq_eq_false_iff_ne];refine⟨λh3=>⟨by omega,?_⟩,λh3=>by omega⟩;rw[hq,h3,hc];omega
  ·rename_i c hc;cases h;have hc:=Fc hc v.ρ;refine⟨.bool (e.ev v.ρ !=f.ev v.ρ),v,λw=>by simp[eqGuard,binOp,Op.intCmp],ResOK.only ⟨_,rfl,?_⟩⟩;simp only[BE.rel,LE.addk_ev,bne_iff_ne,ne_eq,bne_eq_false_iff_eq];refine⟨λh3=>⟨by omega,?_⟩,λh3=>by omega⟩;rw[hq,h3,hc];omega
  ·cases h
 ·rename_i e f;obtain⟨rfl,h1⟩:=hx;obtain⟨rfl,h2⟩:=hy;have hz:∀b:Bool,BE.rel v.ρ (.sq (.k 0)) b:=λb=>by simp[BE.rel]
  split at h;rotate_right
  ·cases h
  all_goals
   cases h;exact⟨.bool _,v,λw=>by simp[eqGuard,binOp,Op.floatCmp];rfl,ResOK.only ⟨_,rfl,hz _⟩⟩
 ·cases h
theorem Yk(h:Den T X nt v st a w){x:Option Operand}{d e:LE}(he:OT st x d=some e)(hd:d.ok st.next=true):
 e.ok st.next=true/\match x.map a.eval with|none=>e=d|some y=>∃ik,y= .int ik (e.ev v.ρ):=by
 unfold OT at he;split at he
 ·cases he;exact⟨hd,rfl⟩
 ·split at he<;>cases he;rename_i y _ ik hy;have:=Db h hy;exact⟨this.2,ik,this.1.1⟩
variable{c:SC}
theorem Y_(h:c.ok k=true):(CC c).ok k=true:=by
 cases c<;>simp only[SC.ok,Aq]at h<;>simp only[CC]<;>first|exact h|exact h.1.1.1.2|exact h.2|rfl
theorem Abp(hty:CB P ty)(h:Den T X nt v st a w){o:Oper}(hr:Q4 T ty st o.op=some r):
 ∃z v',(∀w',SeesO v w st o.op w'->(execOp a.eval o).run P w'= .ok (.value z) w')/\ResOK T v st.next r z v':=by
 obtain⟨dst,op,ot,pos,aft,gd⟩:=o;simp only at hr⊢;unfold Q4 at hr;split at hr
 ·rename_i x;simp only[BG]at hr;obtain⟨e,h1,rfl⟩:=hr;have:=Gz h h1;exact⟨_,v,λw' _=>by simp[execOp],ResOK.only this.1⟩
 ·rename_i x;simp only[BG]at hr;obtain⟨e,h1,rfl⟩:=hr;have:=Gz h h1;exact⟨_,v,λw' _=>by simp[execOp],ResOK.only this.1⟩
 ·rename_i op t x y u;split at hr
  ·rename_i c d hc hd;have h1:=Db h hc;have h2:=Db h hd;obtain⟨z,v',h3,h4⟩:=Ae8 (P:=P) h.hp.facts hr h1.1 h1.2 h2.1 t x y;refine⟨z,v',λw' _=>?_,h4⟩;have:=h3 w';simp only[execOp];rw[Sem.run_bind,this];rfl
  ·cases hr
 ·rename_i op t x;simp only[BV]at hr;obtain⟨c,hc,hr⟩:=hr;obtain⟨z,v',h3,h4⟩:=Avg (P:=P) h.hp.facts hr (Db h hc).1;exact⟨z,v',λw' _=>by simp[execOp,h3 w'],h4⟩
 ·rename_i s t x;simp only[BV]at hr;obtain⟨c,hc,hr⟩:=hr;obtain⟨z,v',h3,h4⟩:=Amj hty h.hp.facts hr (Db h hc).1;exact⟨z,v',λw' _=>by simp[execOp,h3 w'],h4⟩
 ·rename_i t x y;split at hr
  ·rename_i c d hc hd;obtain⟨z,v',h3,h4⟩:=Aqr hty h.hp.facts hr (Db h hc).1 (Db h hd).1;exact⟨z,v',λw' _=>by simp[execOp,h3 w'],h4⟩
  ·cases hr
 ·rename_i x i;simp only[BV]at hr;obtain⟨e,he,hr⟩:=hr;obtain⟨z,v',h3,h4⟩:=Anl (P:=P) hr (Gz h he).1;exact⟨z,v',λw' _=>by simp[execOp,h3 w'],h4⟩
 ·rename_i s x f;simp only[BV]at hr;obtain⟨c,hc,hr⟩:=hr;obtain⟨z,v',h3,h4⟩:=Ann hty hr (Db h hc).1;exact⟨z,v',λw' _=>by simp[execOp,h3 w'],h4⟩
 ·rename_i x;simp only[BV]at hr;obtain⟨c,hc,hr⟩:=hr;have h1:=(Db h hc).1;unfold Aa3 at hr;split at hr<;>cases hr
  ·have h1':=h1;obtain⟨b,h2,h3⟩:=h1;exact⟨_,v,λw' _=>by simp[execOp,h3],ResOK.only (h3▸h1')⟩
  ·have h3:a.eval x=_:=h1;exact⟨_,v,λw' _=>by simp[execOp,h3],ResOK.only (h3▸h1)⟩
 ·rename_i t x y;split at hr
  ·rename_i c d hc hd;have h1:=Db h hc;have h2:=Db h hd;obtain⟨z,v',h3,h4⟩:=Aqq hty h.hp hr h1.1 h1.2 h2.1 h2.2;exact⟨z,v',λw' _=>by simp[execOp,h3 w'],h4⟩
  ·cases hr
 ·rename_i t x lo hi;split at hr
  ·rename_i c hc;have h1:=Db h hc;split at hr
   ·rename_i l hh hl hhi;have b1:=Yk h hl rfl;have b2:=Yk h hhi (Y_ h1.2);obtain⟨z,v',h3,h4⟩:=At9 hty h.hp hr h1.1 h1.2 b1.1 b2.1 (vl:=lo.map a.eval) (vh:=hi.map a.eval) (by
     have:=b1.2;cases hm:lo.map a.eval with
     |none=>rw[hm]at this;simp only at this;simp[this]
     |some y=>rw[hm]at this;exact this) b2.2
    exact⟨z,v',λw' _=>by simp[execOp,h3 w'],h4⟩
   ·cases hr
  ·cases hr
 ·rename_i t parts;obtain⟨z,h3,h4⟩:=Afa hty h hr;refine⟨z,v,λw' _=>?_,h4⟩;have:(parts.map λ(p:Nat×Operand)=>(p.1,a.eval p.2))=(parts.toList.map λp=>(p.1,a.eval p.2)).toArray:=DB.mp (by simp);have h5:=h3 w';rw[<-this]at h5;simp only[execOp];rw[Sem.run_bind,h5];rfl
 ·rename_i t x;simp only[BV]at hr;obtain⟨c,hc,hr⟩:=hr;obtain⟨z,h3,h4⟩:=Aaj hty h.hp hr (Db h hc).1;refine⟨z,v,λw' hs=>?_,h4⟩;have hsee:X6 v w c w':=by
   unfold SeesO at hs;simp only[Wg,hc]at hs;cases c<;>exact hs
  simp[execOp,h3 w' hsee]
 ·rename_i c;split at hr
  ·rename_i hcal;split at hr
   ·rename_i x t hx ht;simp only[BV]at hr;obtain⟨d,hd,hr⟩:=hr;obtain⟨z,v',h3,h4⟩:=Aq9 (u:=ot) hty hr (Db h hd).1;refine⟨z,v',λw' _=>?_,h4⟩;have e1:c.args=#[x]:=DB.mp (by simpa using hx);have e2:c.argTypes=#[t]:=DB.mp (by simpa using ht);simp[execOp,resolve,invoke,builtin,hcal,e1,e2,h3 w']
   ·cases hr
  ·cases hr
 ·cases hr
theorem SeesO.self(hp:Hp T X v st w)(op:Op):SeesO v w st op w:=by
 unfold SeesO;split
 ·trivial
 ·exactλ_ _=>rfl
 ·exactλb o y hy=>(hp.hM b o y hy).1
end
def FA{α:Type}:List (Nat×α)->Nat->List (Nat×α)
 |[],_=>[]
 |(i,x)::r,j=>match Nat.beq i j with
  |true=>FA r j
  |false=>(i,x)::FA r j
theorem DJ{α:Type}:∀{l:List (Nat×α)}{j:Nat}{p:Nat×α},p∈FA l j->p∈l/\p.1≠j
 |(i,x)::r,j,p,h=>by
  simp only[FA]at h;split at h
  ·exact⟨Ft _ (DJ h).1,(DJ h).2⟩
  ·rename_i hb;rcases Ao.1 h with rfl|h
   ·exact⟨E4,λe=>by simp only at e;subst e;simp at hb⟩
   ·exact⟨Ft _ (DJ h).1,(DJ h).2⟩
section
variable{P:Program}{T:Ar}{X:Cx}{nt:Nat}{v v':Val}{st:St}{a:Act}{w w':World}
theorem Fra.step(h:Fra X v w)(hos:w'.os=w.os)(ht:w'.tape=w.tape)(ho:w'.output=w.output)(hsz:w.heap.size<=w'.heap.size)
 (hb:∀b,b<w.heap.size->w'.heap[b]? =w.heap[b]? \/X.B b\/X.w0.heap.size<=b\/v.A b≠none) (hM:∀b o x,v'.M b o=some x->v.M b o=some x\/X.B b\/X.w0.heap.size<=b)
 (hA:∀b x,v'.A b=some x->v.A b=some x\/X.w0.heap.size<=b):Fra X v' w' where
 os:=hos.trans h.os
 tape:=ht.trans h.tape
 output:=ho.trans h.output
 size:=AX h.size hsz
 blk:=λb h1 h2 h3=>by
  rcases hb b (BB h1 h.size)with h4|h4|h4|h4
  ·exact h4.trans (h.blk b h1 h2 h3)
  ·exact absurd h4 h2
  ·omega
  ·cases hx:v.A b with
   |none=>exact absurd hx h4
   |some x=>
    rcases h.A b x hx with h5|h5
    ·rw[h3]at h5;cases h5
    ·omega
 M:=λb o x hx=>by
  rcases hM b o x hx with h1|h1
  ·exact h.M b o x h1
  ·exact .inr h1
 A:=λb x hx=>by
  rcases hA b x hx with h1|h1
  ·exact h.A b x h1
  ·exact .inr h1
variable{b:Nat}
theorem Hp.mem_lt(hp:Hp T X v st w){p:Nat×Nat×List SC}(hm:p∈st.mem)(hb:v.β p.1=some b):b<w.heap.size:=by
 obtain⟨⟨b',cs,h1,h2,_⟩,_⟩:=hp.mem p hm;rw[hb]at h1;cases h1;exact h2.lt
theorem Hp.own_lt(hp:Hp T X v st w){p:Nat×Nat×Nat×LE}(hm:p∈st.own)(hb:v.β p.1=some b):b<w.heap.size:=by
 obtain⟨h0|⟨b',cs,h1,h2,_⟩,_⟩:=hp.own p hm
 ·rw[hb]at h0;cases h0
 ·rw[hb]at h1;cases h1;exact h2.lt
variable{x:Value}{o:Nat}
theorem Hp.M_lt(hp:Hp T X v st w)(h:v.M b o=some x):b<w.heap.size:=by
 have:=(hp.hM b o x h).1;unfold World.cell? at this;split at this
 ·rename_i hh;exact(FG.1 hh).1
 ·cases this
theorem Hp.A_lt(hp:Hp T X v st w){b k sz:Nat×Nat}{q:IntKind×Nat}{c:Nat}(h:v.A c=some q):c<w.heap.size:=by
 obtain⟨cs,t,h1,_⟩:=hp.hA c q.1 q.2 h;exact(FG.1 h1).1
theorem Hp.M_new(hp:Hp T X v st w)(o:Nat):v.M w.heap.size o=none:=by
 cases h:v.M w.heap.size o with
 |none=>rfl
 |some x=>have:=hp.M_lt h;omega
theorem Hp.A_new(hp:Hp T X v st w):v.A w.heap.size=none:=by
 cases h:v.A w.heap.size with
 |none=>rfl
 |some x=>have:=hp.A_lt (b:=(0,0)) (k:=(0,0)) (sz:=(0,0)) h;omega
def Val.newβ(v:Val)(k:Nat)(b:Option Nat):Val:={v with β:=λi=>if i<k then v.β i else b}
theorem X8(v:Val)(k:Nat)(b:Option Nat):Ext k v (v.newβ k b):=
 ⟨λ_ _=>rfl,λ_ _=>rfl,λi hi=>by simp[Val.newβ,hi],λ_ _=>rfl,λ_ _ _ h=>h,λ_ _ h=>h⟩
theorem GM(h:w'.heap[b]? =w.heap[b]?):w'.cell? ⟨b,o,none⟩=w.cell? ⟨b,o,none⟩:=by
 unfold World.cell?;simp only[h]
variable{cs:List Value}{l:List SC}
theorem Hp.alloc(hp:Hp T X v st w)(t:Nat)(hl:All2 (DC T v) l cs)(ho:l.all (SC.ok st.next)=true):
 Hp T X (v.newβ st.next (some w.heap.size)) {st with mem:=(st.next,t,l)::st.mem,next:=st.next+1} (w.alloc (.cells cs.toArray t)):=by
 have hx:=X8 v st.next (some w.heap.size);have hs:(w.alloc (.cells cs.toArray t)).heap.size=w.heap.size+1:=by simp
 have hold:∀b,b<w.heap.size->(w.alloc (.cells cs.toArray t)).heap[b]? =w.heap[b]? :=λb hb=>heap_alloc_old w _ b hb;have hone:∀c∈cs,c.oneCell'=true:=by
  clear ho hold hs hx;induction l generalizing cs with
  |nil=>cases cs with
   |nil=>simp
   |cons=>exact hl.elim
  |cons a l ih=>cases cs with
   |nil=>simp
   |cons c cs=>
    intro x hxm;rcases Ao.1 hxm with rfl|h
    ·exact DC.one hl.1
    ·exact ih hl.2 x h
 refine hp.step hx (nx:=st.next+1) (by omega) (fs:=[]) (by simp[Holds]) (by simp) (ms:=[]) (by simp) ?_ ?_ ?_ ?_ ?_ ?_ ?_ ?_
 ·exact hp.fra.step V V V (by omega) (λb hb=>.inl (hold b hb)) (λb o x h=>.inl h) (λb x h=>.inl h)
 ·intro b o x h;have:=hp.hM b o x h;exact⟨by rw[GM (hold b (hp.M_lt h))];exact this.1,this.2⟩
 ·intro b k sz h;obtain⟨c,t',h1,h2⟩:=hp.hA b k sz h;exact⟨c,t',by rw[hold b (hp.A_lt (b:=(0,0)) (k:=(0,0)) (sz:=(0,0)) h)];exact h1,h2⟩
 ·intro p hm;rcases Ao.1 hm with rfl|hm
  ·refine⟨⟨w.heap.size,cs,by simp[Val.newβ],Cf,DCs.ext hx ho hl,hone,hp.M_new,hp.A_new,.inr hp.fra.size⟩,?_⟩;simp only[C6,Aq,A_];exact⟨by omega,SCs.ok_mono (by omega) ho⟩
  ·refine⟨(hp.mem p hm).1.keep hx (hp.mem p hm).2 λb hb=>⟨hold b (hp.mem_lt hm hb),?_⟩,N5 (by omega) (hp.mem p hm).2⟩;obtain⟨b',cs',h1,_,_,_,h5,h6,_⟩:=(hp.mem p hm).1;rw[h1]at hb;cases hb;exact⟨h5,h6⟩
 ·intro p hm;refine⟨(hp.own p hm).1.keep hx (hp.own p hm).2 λb hb=>⟨hold b (hp.own_lt hm hb),λ_ _ h=>h,?_⟩,Ks (by omega) (hp.own p hm).2⟩;rcases(hp.own p hm).1 with h1|⟨b',cs',h1,_,_,_,_,_,h7,_⟩
  ·rw[h1]at hb;cases hb
  ·rw[h1]at hb;cases hb;exact h7
 ·intro p hm q hq b h1 h2;have key:∀{r:Nat×Nat×List SC},r∈st.mem->(v.newβ st.next (some w.heap.size)).β r.1=some b->v.β r.1=some b/\b<w.heap.size:=by
   intro r hr h;have k1:=(hp.mem r hr).2;simp only[C6,Aq,A_]at k1;rw[hx.β _ k1.1]at h;exact⟨h,hp.mem_lt hr h⟩
  rcases Ao.1 hm with rfl|hm<;>rcases Ao.1 hq with rfl|hq
  ·rfl
  ·have:=key hq h2;simp[Val.newβ]at h1;omega
  ·have:=key hm h1;simp[Val.newβ]at h2;omega
  ·exact hp.memU p hm q hq b (key hm h1).1 (key hq h2).1
 ·intro p hm q hq b h1 h2;have k1:=(hp.own p hm).2;have k2:=(hp.own q hq).2;simp only[DA,Aq,A_]at k1 k2;rw[hx.β _ k1.1]at h1;rw[hx.β _ k2.1]at h2;exact hp.ownU p hm q hq b h1 h2
 ·intro p hm q hq b h1;have k2:=(hp.own q hq).2;simp only[DA,Aq,A_]at k2;rw[hx.β _ k2.1];rcases Ao.1 hm with rfl|hm
  ·simp[Val.newβ]at h1;subst h1;intro h2;have:=hp.own_lt hq h2;omega
  ·have k1:=(hp.mem p hm).2;simp only[C6,Aq,A_]at k1;rw[hx.β _ k1.1]at h1;exact hp.moU p hm q hq b h1
variable{cs':List Value}{t:Nat}
theorem Hp.store(hp:Hp T X v st w){g:Nat}{l':List SC}(hm:(g,t,l)∈st.mem)(hb:v.β g=some b)(hl:All2 (DC T v) l' cs')(ho:l'.all (SC.ok st.next)=true)(hone:∀c∈cs',c.oneCell'=true):
 Hp T X v {st with mem:=(g,t,l')::FA st.mem g} (w.setRow b cs'.toArray):=by
 obtain⟨⟨b0,cs,h1,h2,h3,h4,h5,h6,h7⟩,h8⟩:=hp.mem _ hm;simp only at h1 h2;rw[h1]at hb;cases hb;have hsame:∀c,c≠b->(w.setRow b cs'.toArray).heap[c]? =w.heap[c]? :=λc hc=>setRow_other w b c _ hc;refine hp.step (Ext.refl _ _) (nx:=st.next) (Ay _) (fs:=[]) (by simp[Holds]) (by simp) (ms:=[]) (by simp) ?_ ?_ ?_ ?_ ?_ ?_ ?_ ?_
 ·refine hp.fra.step V V V (by rw[E8];exact Ay _) (λc hc=>?_) (λb o x h=>.inl h) (λb x h=>.inl h);by_cases hcb:c=b
  ·subst hcb;rcases h7 with h7|h7
   ·exact .inr (.inl h7)
   ·exact .inr (.inr (.inl h7))
  ·exact .inl (hsame c hcb)
 ·intro c o x h;have:=hp.hM c o x h;have hcb:c≠b:=λe=>by subst e;rw[h5]at h;cases h
  exact⟨by rw[GM (hsame c hcb)];exact this.1,this.2⟩
 ·intro c k sz h;obtain⟨c',t',e1,e2⟩:=hp.hA c k sz h;have hcb:c≠b:=λe=>by subst e;rw[h6]at h;cases h
  exact⟨c',t',by rw[hsame c hcb];exact e1,e2⟩
 ·intro p hpm;rcases Ao.1 hpm with rfl|hpm
  ·refine⟨⟨b,cs',h1,h2.setRow cs',hl,hone,h5,h6,h7⟩,?_⟩;simp only[C6,Aq,A_]at h8⊢;exact⟨h8.1,ho⟩
  ·obtain⟨e1,e2⟩:=DJ hpm;refine⟨(hp.mem p e1).1.keep (Ext.refl _ _) (hp.mem p e1).2 λc hc=>⟨hsame c λe=>?_,?_⟩,(hp.mem p e1).2⟩
   ·subst e;exact e2 (hp.memU p e1 _ hm c hc h1)
   ·obtain⟨b',cs'',e3,_,_,_,e5,e6,_⟩:=(hp.mem p e1).1;rw[e3]at hc;cases hc;exact⟨e5,e6⟩
 ·intro p hpm;refine⟨(hp.own p hpm).1.keep (Ext.refl _ _) (hp.own p hpm).2 λc hc=>⟨hsame c λe=>?_,λ_ _ h=>h,?_⟩,(hp.own p hpm).2⟩
  ·subst e;exact hp.moU _ hm p hpm c h1 hc
  ·rcases(hp.own p hpm).1 with e1|⟨b',cs'',e1,_,_,_,_,_,e7,_⟩
   ·rw[e1]at hc;cases hc
   ·rw[e1]at hc;cases hc;exact e7
 ·intro p hpm q hqm c e1 e2;rcases Ao.1 hpm with rfl|hpm<;>rcases Ao.1 hqm with rfl|hqm
  ·rfl
  ·exact hp.memU (g,t,l) hm q (DJ hqm).1 c e1 e2
  ·exact hp.memU p (DJ hpm).1 (g,t,l) hm c e1 e2
  ·exact hp.memU p (DJ hpm).1 q (DJ hqm).1 c e1 e2
 ·exact hp.ownU
 ·intro p hpm q hqm c e1;rcases Ao.1 hpm with rfl|hpm
  ·exact hp.moU _ hm q hqm c e1
  ·exact hp.moU p (DJ hpm).1 q hqm c e1
theorem Hp.arrSet(hp:Hp T X v st w){sz:Nat}{k:IntKind}(hb:v.A b=some (k,sz))(hlen:cs'.length=sz)(hc:∀x∈cs',∃n,x= .int k n/\Bs k n):Hp T X v st (w.setRow b cs'.toArray):=by
 have hsame:∀c,c≠b->(w.setRow b cs'.toArray).heap[c]? =w.heap[c]? :=λc hc=>setRow_other w b c _ hc;refine hp.step (Ext.refl _ _) (nx:=st.next) (Ay _) (fs:=[]) (by simp[Holds]) (by simp) (ms:=[]) (by simp) ?_ ?_ ?_ ?_ ?_ hp.memU hp.ownU hp.moU
 ·refine hp.fra.step V V V (by rw[E8];exact Ay _) (λc hc=>?_) (λb o x h=>.inl h) (λb x h=>.inl h);by_cases hcb:c=b
  ·subst hcb;exact .inr (.inr (.inr (by rw[hb];simp)))
  ·exact .inl (hsame c hcb)
 ·intro c o x h;have:=hp.hM c o x h;have hcb:c≠b:=λe=>by subst e;rw[hb]at this;cases this.2.1
  exact⟨by rw[GM (hsame c hcb)];exact this.1,this.2⟩
 ·intro c k' sz' h;by_cases hcb:c=b
  ·subst hcb;rw[hb]at h;cases h;obtain⟨c',t',e1,e2⟩:=hp.hA c k sz hb;exact⟨cs',t',setRow_heap w c _ _ _ _ e1,hlen,hc⟩
  ·obtain⟨c',t',e1,e2⟩:=hp.hA c k' sz' h;exact⟨c',t',by rw[hsame c hcb];exact e1,e2⟩
 ·intro p hpm;obtain⟨b',cs'',e3,_,_,_,e5,e6,_⟩:=(hp.mem p hpm).1;refine⟨(hp.mem p hpm).1.keep (Ext.refl _ _) (hp.mem p hpm).2 λc hc=>⟨hsame c λe=>?_,?_⟩,(hp.mem p hpm).2⟩
  ·subst e;rw[e3]at hc;cases hc;rw[hb]at e6;cases e6
  ·rw[e3]at hc;cases hc;exact⟨e5,e6⟩
 ·intro p hpm;refine⟨(hp.own p hpm).1.keep (Ext.refl _ _) (hp.own p hpm).2 λc hc=>?_,(hp.own p hpm).2⟩;rcases(hp.own p hpm).1 with e1|⟨b',cs'',e1,_,_,_,_,_,e7,_⟩
  ·rw[e1]at hc;cases hc
  ·rw[e1]at hc;cases hc;exact⟨hsame _ (λe=>by subst e;rw[hb]at e7;cases e7),λ_ _ h=>h,e7⟩
def Val.newA(v:Val)(b:Nat)(q:IntKind×Nat):Val:={v with A:=λc=>if c=b then some q else v.A c}
theorem Hp.newArr(hp:Hp T X v st w){k:IntKind}(t:Nat)(hc:∀x∈cs,∃n,x= .int k n/\Bs k n):
 Ext st.next v (v.newA w.heap.size (k,cs.length))/\Hp T X (v.newA w.heap.size (k,cs.length)) st (w.alloc (.cells cs.toArray t)):=by
 have hA0:=hp.A_new;have hx:Ext st.next v (v.newA w.heap.size (k,cs.length)):=⟨λ_ _=>rfl,λ_ _=>rfl,λ_ _=>rfl,λ_ _=>rfl,λ_ _ _ h=>h,λb x h=>by
  have:b≠w.heap.size:=λe=>by subst e;rw[hA0]at h;cases h
  simp[Val.newA,this,h]⟩
 have hs:(w.alloc (.cells cs.toArray t)).heap.size=w.heap.size+1:=by simp
 have hold:∀b,b<w.heap.size->(w.alloc (.cells cs.toArray t)).heap[b]? =w.heap[b]? :=λb hb=>heap_alloc_old w _ b hb;have hAne:∀c,c<w.heap.size->(v.newA w.heap.size (k,cs.length)).A c=v.A c:=λc hc=>by
  have:c≠w.heap.size:=by omega
  simp[Val.newA,this]
 refine⟨hx,?_⟩;refine hp.step hx (nx:=st.next) (Ay _) (fs:=[]) (by simp[Holds]) (by simp) (ms:=[]) (by simp) ?_ ?_ ?_ ?_ ?_ hp.memU hp.ownU hp.moU
 ·refine hp.fra.step V V V (by omega) (λb hb=>.inl (hold b hb)) (λb o x h=>.inl h) (λb x h=>?_);by_cases hbn:b=w.heap.size
  ·exact .inr (by have:=hp.fra.size;omega)
  ·simp[Val.newA,hbn]at h;exact .inl h
 ·intro b o x h;have:=hp.hM b o x h;have hlt:=hp.M_lt h;exact⟨by rw[GM (hold b hlt)];exact this.1,by rw[hAne b hlt];exact this.2.1,this.2.2⟩
 ·intro b k' sz h;by_cases hbn:b=w.heap.size
  ·subst hbn;simp[Val.newA]at h;obtain⟨rfl,rfl⟩:=h;exact⟨cs,t,heap_alloc_new w _,rfl,hc⟩
  ·simp[Val.newA,hbn]at h;obtain⟨c,t',h1,h2⟩:=hp.hA b k' sz h;exact⟨c,t',by rw[hold b (hp.A_lt (b:=(0,0)) (k:=(0,0)) (sz:=(0,0)) h)];exact h1,h2⟩
 ·intro p hm;refine⟨(hp.mem p hm).1.keep hx (hp.mem p hm).2 λb hb=>⟨hold b (hp.mem_lt hm hb),?_⟩,(hp.mem p hm).2⟩;have hlt:=hp.mem_lt hm hb;obtain⟨b',cs',h1,_,_,_,h5,h6,_⟩:=(hp.mem p hm).1;rw[h1]at hb;cases hb;exact⟨h5,by rw[hAne _ hlt];exact h6⟩
 ·intro p hm;refine⟨(hp.own p hm).1.keep hx (hp.own p hm).2 λb hb=>⟨hold b (hp.own_lt hm hb),λ_ _ h=>h,?_⟩,(hp.own p hm).2⟩;have hlt:=hp.own_lt hm hb;rw[hAne b hlt];rcases(hp.own p hm).1 with h1|⟨b',cs',h1,_,_,_,_,_,h7,_⟩
  ·rw[h1]at hb;cases hb
  ·rw[h1]at hb;cases hb;exact h7
def Val.frz(v:Val)(k:Nat)(ρ:Nat->Int)(lv:LV)(b cap N:Nat)(cs:List Value):Val:=
 {v with
  ρ:=λi=>if i<k then v.ρ i else ρ i
  δ:=λi=>if i<k then v.δ i else lv
  β:=λi=>if i<k then v.β i else some b
  κ:=λi=>if i<k then v.κ i else(cap,0)
  M:=λc o=>if c=b/\o<N then cs[o]? else v.M c o}
variable{cap n N e:Nat}
theorem Hp.frz(hp:Hp T X v st w){ne:LE}(ρ:Nat->Int)(lv:LV)(hos:w'.os=w.os)(ht:w'.tape=w.tape)(ho:w'.output=w.output)(hsz:w.heap.size<=w'.heap.size)
 (hsame:∀c,c<w.heap.size->c≠b->w'.heap[c]? =w.heap[c]?) (hB:Blk w' b cs t) (hN:N<=cs.length) (hcons:∀o x,v.M b o=some x->o<N/\cs[o]? =some x) (hAb:v.A b=none)
 (hmb:∀p∈st.mem,v.β p.1≠some b) {own':List (Nat×Nat×Nat×LE)} (hown:∀p∈own',p∈st.own/\v.β p.1≠some b) (hone:∀o x,o<N->cs[o]? =some x->x.oneCell'=true) (hXB:X.B b\/X.w0.heap.size<=b)
 (hNn:N=n*(T e).cells.length) (hcl:cs.length=cap*(T e).cells.length) (hnc:n<=cap) (hcm:cap<=maxLen) {nx:Nat} (hnx:st.next<nx) (hne:ne.ok nx=true) (hnev:ne.ev (v.frz st.next ρ lv b cap N cs).ρ=n)
 {fs:List LE} (hf:Holds (v.frz st.next ρ lv b cap N cs).ρ fs) (hfo:∀f∈fs,f.ok nx=true) {ms:List (Nat×List LE)} (hms:∀p∈ms,MaxOK (v.frz st.next ρ lv b cap N cs) p/\Gy nx p=true):
 Ext st.next v (v.frz st.next ρ lv b cap N cs)/\Hp T X (v.frz st.next ρ lv b cap N cs) {st with own:=(st.next,t,e,ne)::own',facts:=fs++st.facts,maxs:=ms++st.maxs,next:=nx} w':=by
 have hMle:DD v.M (v.frz st.next ρ lv b cap N cs).M:=by
  intro c o x h;by_cases hc:c=b/\o<N
  ·obtain⟨rfl,hlt⟩:=hc;simp[Val.frz,hlt,(hcons o x h).2]
  ·simp[Val.frz,hc,h]
 have hx:Ext st.next v (v.frz st.next ρ lv b cap N cs):=
  ⟨λi hi=>by simp[Val.frz,hi],λi hi=>by simp[Val.frz,hi],λi hi=>by simp[Val.frz,hi],λi hi=>by simp[Val.frz,hi],hMle,λ_ _ h=>h⟩
 have hMinv:∀c o x,(v.frz st.next ρ lv b cap N cs).M c o=some x->(c=b/\o<N/\cs[o]? =some x)\/(v.M c o=some x/\c≠b):=by
  intro c o x h;by_cases hc:c=b/\o<N
  ·simp[Val.frz,hc]at h;exact .inl ⟨hc.1,hc.2,h⟩
  ·simp only[Val.frz,if_neg hc]at h;by_cases hcb:c=b
   ·subst hcb;have:=(hcons o x h).1;exact absurd ⟨rfl,this⟩ hc
   ·exact .inr ⟨h,hcb⟩
 refine⟨hx,?_⟩;refine hp.step hx (HR hnx) hf hfo hms ?_ ?_ ?_ ?_ ?_ ?_ ?_ ?_
 ·refine hp.fra.step hos ht ho hsz (λc hc=>?_) (λc o x h=>?_) (λ_ _ h=>.inl h)
  ·by_cases hcb:c=b
   ·subst hcb;rcases hXB with h|h
    ·exact .inr (.inl h)
    ·exact .inr (.inr (.inl h))
   ·exact .inl (hsame c hc hcb)
  ·rcases hMinv c o x h with⟨rfl,_⟩|⟨h1,_⟩
   ·exact .inr hXB
   ·exact .inl h1
 ·intro c o x h;rcases hMinv c o x h with⟨rfl,h1,h2⟩|⟨h1,h2⟩
  ·exact⟨by rw[hB.cell];exact h2,hAb,hone o x h1 h2⟩
  ·have:=hp.hM c o x h1;exact⟨by rw[GM (hsame c (hp.M_lt h1) h2)];exact this.1,this.2⟩
 ·intro c k sz h;obtain⟨c',t',e1,e2⟩:=hp.hA c k sz h;have hcb:c≠b:=λe=>by subst e;rw[show v.A c=some (k,sz)from h]at hAb;cases hAb
  exact⟨c',t',by rw[hsame c (hp.A_lt (b:=(0,0)) (k:=(0,0)) (sz:=(0,0)) h) hcb];exact e1,e2⟩
 ·intro p hm;refine⟨(hp.mem p hm).1.keep hx (hp.mem p hm).2 λc hc=>⟨hsame c (hp.mem_lt hm hc) (λe=>hmb p hm (e▸hc)),λo=>?_,?_⟩,N5 (HR hnx) (hp.mem p hm).2⟩
  ·obtain⟨b',cs',h1,_,_,_,h5,h6,_⟩:=(hp.mem p hm).1;have hcb:c≠b:=λe=>hmb p hm (e▸hc);rw[h1]at hc;cases hc;cases hq:(v.frz st.next ρ lv b cap N cs).M c o with
   |none=>rfl
   |some x=>
    rcases hMinv c o x hq with⟨rfl,_⟩|⟨h1',_⟩
    ·exact absurd V hcb
    ·rw[h5]at h1';cases h1'
  ·obtain⟨b',cs',h1,_,_,_,h5,h6,_⟩:=(hp.mem p hm).1;rw[h1]at hc;cases hc;exact h6
 ·intro p hm;rcases Ao.1 hm with rfl|hm
  ·have hκ:((v.frz st.next ρ lv b cap N cs).κ st.next).1=cap:=by simp[Val.frz]
   refine⟨.inr ⟨b,cs,by simp[Val.frz],hB,by simp only[hκ];exact hcl,by simp only[hnev,hκ];omega,by simp only[hκ];exact hcm,?_,hAb,hXB⟩,?_⟩
   ·intro o x h;simp only[hnev];rcases hMinv b o x h with⟨_,h1,_⟩|⟨_,h1⟩
    ·rw[hNn]at h1;exact_mod_cast h1
    ·exact absurd V h1
   ·simp only[DA,Aq,A_];exact⟨hnx,hne⟩
  ·obtain⟨h1,h2⟩:=hown p hm;refine⟨(hp.own p h1).1.keep hx (hp.own p h1).2 λc hc=>?_,Ks (HR hnx) (hp.own p h1).2⟩;have hcb:c≠b:=λe=>h2 (e▸hc);refine⟨hsame c (hp.own_lt h1 hc) hcb,λo x h=>?_,?_⟩
   ·rcases hMinv c o x h with⟨h3,_⟩|⟨h3,_⟩
    ·exact absurd h3 hcb
    ·exact h3
   ·rcases(hp.own p h1).1 with e1|⟨b',cs',e1,_,_,_,_,_,e7,_⟩
    ·rw[e1]at hc;cases hc
    ·rw[e1]at hc;cases hc;exact e7
 ·intro p hm q hq c h1 h2;have k1:=(hp.mem p hm).2;have k2:=(hp.mem q hq).2;simp only[C6,Aq,A_]at k1 k2;rw[hx.β _ k1.1]at h1;rw[hx.β _ k2.1]at h2;exact hp.memU p hm q hq c h1 h2
 ·intro p hm q hq c h1 h2;have key:∀{r:Nat×Nat×Nat×LE},r∈own'->(v.frz st.next ρ lv b cap N cs).β r.1=some c->v.β r.1=some c/\c≠b:=by
   intro r hr h;have k1:=(hp.own r (hown r hr).1).2;simp only[DA,Aq,A_]at k1;rw[hx.β _ k1.1]at h;exact⟨h,λe=>(hown r hr).2 (e▸h)⟩
  have knew:(v.frz st.next ρ lv b cap N cs).β st.next=some b:=by simp[Val.frz]
  rcases Ao.1 hm with rfl|hm<;>rcases Ao.1 hq with rfl|hq
  ·rfl
  ·simp only[knew]at h1;cases h1;exact absurd V (key hq h2).2
  ·simp only[knew]at h2;cases h2;exact absurd V (key hm h1).2
  ·exact hp.ownU p (hown p hm).1 q (hown q hq).1 c (key hm h1).1 (key hq h2).1
 ·intro p hm q hq c h1;have k1:=(hp.mem p hm).2;simp only[C6,Aq,A_]at k1;rw[hx.β _ k1.1]at h1;rcases Ao.1 hq with rfl|hq
  ·have knew:(v.frz st.next ρ lv b cap N cs).β st.next=some b:=by simp[Val.frz]
   simp only[knew];intro h;cases h;exact hmb p hm h1
  ·have k2:=(hp.own q (hown q hq).1).2;simp only[DA,Aq,A_]at k2;rw[hx.β _ k2.1];exact hp.moU p hm q (hown q hq).1 c h1
theorem Hp.drawn(hp:Hp T X v st w)(n:Nat):Hp T X v st {w with drawn:=n}:=
 ⟨⟨hp.fra.os,hp.fra.tape,hp.fra.output,hp.fra.size,hp.fra.blk,hp.fra.M,hp.fra.A⟩,hp.ext,hp.kk,hp.hM,hp.hA,hp.mem,hp.own,hp.rows,hp.pres,hp.rix,hp.maxs,hp.facts,hp.okf,hp.memU,hp.ownU,hp.moU⟩
end
def Sz:CT->CT->Bool
 | .int k c,.int k' c'=>decide (k=k')&&Nat.beq c c'
 | .bool c,.bool c'=>Nat.beq c c'
 | .str a b c,.str a' b' c'=>Nat.beq a a'&&Nat.beq b b'&&Nat.beq c c'
 | .fz e c,.fz e' c'=>Nat.beq e e'&&Nat.beq c c'
 | .ar k a b,.ar k' a' b'=>decide (k=k')&&Nat.beq a a'&&Nat.beq b b'
 | .pt e a b,.pt e' a' b'=>Nat.beq e e'&&Nat.beq a a'&&Nat.beq b b'
 | .kd c,.kd c'=>Nat.beq c c'
 |_,_=>false
theorem Ae5{a b:CT}(h:Sz a b=true):a=b:=by
 unfold Sz at h;split at h<;>(try simp only[Aq,decide_eq_true_eq]at h)<;>first
  |(obtain⟨⟨h1,h2⟩,h3⟩:=h;first|rw[AH h1,AH h2,AH h3]|rw[h1,AH h2,AH h3])
  |(obtain⟨h1,h2⟩:=h;first|rw[AH h1,AH h2]|rw[h1,AH h2])
  |rw[AH h]
  |cases h
def KU:List CT->List CT->Bool
 |[],[]=>true
 |a::l,b::k=>Sz a b&&KU l k
 |_,_=>false
theorem Yi:∀{a b:List CT},KU a b=true->a=b
 |[],[],_=>rfl
 |a::l,b::k,h=>by
  simp only[KU,Aq]at h;rw[Ae5 h.1,Yi h.2]
 |[],_::_,h=>by simp[KU]at h
 |_::_,[],h=>by simp[KU]at h
def I2(T:Ar)(e e':Nat):Bool:=Nat.beq e e'||(KU (T e).cells (T e').cells&&Nat.beq (T e).base (T e').base&&Nat.beq (T e).deep (T e').deep&&(T e').inv.isEmpty)
variable{e:Nat}{T:Ar}
theorem QF{e':Nat}(h:I2 T e e'=true):(T e).cells=(T e').cells/\(T e).base=(T e').base/\(T e).deep=(T e').deep/\((T e').inv=[]\/e=e'):=by
 simp only[I2,HM,Aq]at h;rcases h with h|h
 ·have:=AH h;subst this;exact⟨rfl,rfl,rfl,.inr V⟩
 ·refine⟨Yi h.1.1.1,AH h.1.1.2,AH h.1.2,.inl ?_⟩;have:=h.2;cases hq:(T e').inv with
  |nil=>rfl
  |cons a b=>rw[hq]at this;simp at this
theorem J7{T:Ar}{e e':Nat}(h:I2 T e e'=true):∀l:List (List CV),Az T l e=Az T l e'
 |[]=>by simp[Az]
 |r::l=>by
  obtain⟨h1,h2,h3,_⟩:=QF h;simp only[Az,J7 h l,h1,h2]
theorem NX{T:Ar}{e e':Nat}(h:I2 T e e'=true):∀l:List (List CV),Bi T l e=Bi T l e'
 |[]=>by simp[Bi]
 |r::l=>by
  obtain⟨h1,h2,h3,_⟩:=QF h;simp only[Bi,NX h l,h1,h3]
theorem NW{T:Ar}{M:AT}{A:AV}{e e':Nat}(h:I2 T e e'=true):∀{l:List (List CV)}{b o j:Nat},RepL T M A l e b o j->RepL T M A l e' b o j
 |[],_,_,_,_=>by simp only[RepL]
 |r::l,b,o,j,hr=>by
  obtain⟨h1,h2,h3,h4⟩:=QF h;simp only[RepL]at hr⊢;refine⟨h1▸hr.1,?_,by rw[<-h1];exact NW h hr.2.2⟩;rcases h4 with h4|h4
  ·simp[InvR,h4]
  ·subst h4;exact hr.2.1
theorem RepR.copy{T:Ar}{M M':AT}{A:AV}(hM:DD M M'):∀{r:List CV}{ts:List CT}{b o b' o':Nat},RepR T M A r ts b o->(∀i x,i<ts.length->M b (o+i)=some x->M' b' (o'+i)=some x)->RepR T M' A r ts b' o'
 |[],[],_,_,_,_,_,_=>by simp only[RepR]
 |c::r,t::ts,b,o,b',o',h,hc=>by
  simp only[RepR]at h⊢;obtain⟨⟨x,h1,h2⟩,h3⟩:=h;refine⟨⟨x,by simpa using hc 0 x (by simp) (by simpa using h1),RepC.mono hM (λ_ _ h=>h) _ _ _ h2⟩,RepR.copy hM h3 ?_⟩;intro i y hi hy;have:=hc (i+1) y (by simp;omega) (by rw[show o+(i+1)=o+1+i from by omega];exact hy);rwa[show o'+(i+1)=o'+1+i from by omega]at this
 |[],_::_,_,_,_,_,h,_=>by simp only[RepR]at h
 |_::_,[],_,_,_,_,h,_=>by simp only[RepR]at h
theorem RepL.copy{T:Ar}{M M':AT}{A:AV}(hM:DD M M'){e:Nat}:∀{l:List (List CV)}{b o j b' o':Nat},RepL T M A l e b o j->
 (∀i x,i<l.length*(T e).cells.length->M b (o+i)=some x->M' b' (o'+i)=some x)->RepL T M' A l e b' o' j
 |[],_,_,_,_,_,_,_=>by simp only[RepL]
 |r::l,b,o,j,b',o',h,hc=>by
  simp only[RepL]at h⊢;have hmul:(l.length+1)*(T e).cells.length=l.length*(T e).cells.length+(T e).cells.length:=by rw[Dq];omega
  refine⟨RepR.copy hM h.1 (λi x hi hx=>hc i x (by simp only[Cg,hmul];omega) hx),h.2.1,RepL.copy hM h.2.2 ?_⟩;intro i y hi hy;have:=hc ((T e).cells.length+i) y (by simp only[Cg,hmul];omega) (by rw[<-Fe];exact hy);rwa[<-Fe]at this
def I3(c:SC):SC:=match c with
 | .int .i64 e=>match e.con with
  |some n=>.kd (.k n) (.k (DY n))
  |none=>c
 |c=>c
def Fq(c:SC):SC:=match c with
 | .kd e _=>.int .i64 e
 |c=>c
def kdC(c:SC):CT->SC
 | .kd _=>I3 c
 |_=>Fq c
def Jt:List SC->List CT->List SC
 |c::l,t::ts=>kdC c t::Jt l ts
 |l,_=>l
variable{x:Value}{c:SC}
theorem QJ{v:Val}(h:DC T v c x):DC T v (I3 c) x:=by
 unfold I3;split
 ·split
  ·rename_i e n hn;obtain⟨rfl,h1⟩:=h;have:=Fc hn v.ρ;rw[this]at h1⊢;exact⟨by rw[LE.k_ev],by rw[LE.k_ev];exact h1,by rw[LE.k_ev,LE.k_ev]⟩
  ·exact h
 ·exact h
theorem QR{v:Val}(h:DC T v c x):DC T v (Fq c) x:=by
 unfold Fq;split
 ·exact⟨h.1,h.2.1⟩
 ·exact h
variable{k:Nat}
theorem WK(h:c.ok k=true):(I3 c).ok k=true:=by
 unfold I3;split
 ·split
  ·rfl
  ·exact h
 ·exact h
theorem WQ(h:c.ok k=true):(Fq c).ok k=true:=by
 unfold Fq;split
 ·simp only[SC.ok,Aq]at h⊢;exact h.1
 ·exact h
theorem V3{T:Ar}{v:Val}:∀{l:List SC}{ts:List CT}{cs:List Value},All2 (DC T v) l cs->All2 (DC T v) (Jt l ts) cs
 |[],_,_,h=>by simpa only[Jt]using h
 |c::l,[],cs,h=>by simpa only[Jt]using h
 |c::l,t::ts,[],h=>h.elim
 |c::l,t::ts,x::cs,h=>by
  simp only[Jt];refine⟨?_,V3 h.2⟩;unfold kdC;split
  ·exact QJ h.1
  ·exact QR h.1
def TF(T:Ar)(gs:List LE):SC->CT->Option (LE×List LE)
 | .int k e,.int k' c=>match decide (k=k')with
  |true=>match Nat.beq c 0 with
   |true=>some (.k 0,[])
   |false=>match BF gs 2 (e.addk 64)&&BF gs 2 (.sub (.k 63) e)with
    |true=>some (.k 1,[])
    |false=>some (.k 10,[])
  |false=>none
 | .bool _,.bool c=>some (.k c,[])
 | .cmp _,.bool c=>some (.k c,[])
 | .str e,.str c0 c1 c2=>match e.con with
  |some n=>match ES n with
   |true=>some (.k c0,[])
   |false=>some (.k (c1+c2*n),[])
  |none=>match Nat.ble c0 c1 with
   |true=>some (.addk (.mul c2 e) c1,[])
   |false=>some (.addk (.mul c2 e) (c0+c1),[])
 | .fz e _ _ m d _,.fz e' c=>match I2 T e e' with
  |true=>some (m.addk c,[d])
  |false=>none
 | .nil,.fz _ c=>some (.k c,[])
 | .ar k n,.ar k' c0 c1=>match decide (k=k')with
  |true=>some (.addk (.mul c1 n) c0,[])
  |false=>none
 | .nil,.ar _ c0 _=>some (.k c0,[])
 | .pn,.pt _ c0 _=>some (.k c0,[])
 | .pt e m d,.pt e' c0 c1=>match Nat.beq e e' with
  |true=>some (m.addk (c0+c1),[d])
  |false=>none
 | .kd e _,.kd c=>match Nat.beq c 0 with
  |true=>some (.k 0,[])
  |false=>match BF gs 2 (e.addk 64)&&BF gs 2 (.sub (.k 63) e)with
   |true=>some (.k 1,[])
   |false=>some (.k 10,[])
 |_,_=>none
def L0:SC->Bool
 | .int _ _| .bool _| .str _| .fz _ _ _ _ _ _| .ar _ _| .nil| .kd _ _=>true
 |_=>false
section
variable{P:Program}{T:Ar}{X:Cx}{nt:Nat}{v v':Val}{st:St}{a:Act}{w w':World}
structure Ad1(T:Ar)(v:Val)(c:SC)(t:CT)(x:Value)(m:LE)(ds:List LE)(cv:CV):Prop where
 rep:RepC T v.M v.A cv t x
 m:Bl T cv t<=m.ev v.ρ
 d:Df T cv t<=0\/∃d∈ds,Df T cv t<=d.ev v.ρ
 n:L0 c=true->(CC c).ev v.ρ=cv.n
variable{ds:List LE}{m:LE}
theorem Anz{gs:List LE}(hg:Holds v.ρ gs){t:CT}(h:TF T gs c t=some (m,ds))(hx:DC T v c x):∃cv,Ad1 T v c t x m ds cv:=by
 unfold TF at h;split at h
 ·rename_i k e k' c';obtain⟨rfl,h1⟩:=hx;split at h
  ·rename_i hk;have hk:k=k':=by simpa using hk
   subst hk;refine⟨.int (e.ev v.ρ),?_,?_,.inl (by simp[Df]),λ_=>rfl⟩
   ·simp only[RepC];exact⟨trivial,h1⟩
   ·simp only[Bl];split at h
    ·rename_i hc;cases h;simp[EP,AH hc]
    ·split at h<;>cases h
     ·rename_i hp;simp only[Aq]at hp;have p1:=BU hg _ _ hp.1;have p2:=BU hg _ _ hp.2;simp only[LE.addk_ev,LE.sub_ev,LE.k_ev]at p1 p2;simp only[LE.k_ev,EP];split
      ·omega
      ·rw[if_pos (by omega)];omega
     ·simp only[LE.k_ev];exact Qa _ _
  ·cases h
 ·cases h;obtain⟨h1,rfl⟩:=hx;rename_i e c';refine⟨.bool (decide (e.ev v.ρ=1)),by simp only[RepC],by simp[Bl],.inl (by simp[Df]),λ_=>?_⟩;simp only[CC,CV.n];rcases h1 with h1|h1<;>simp[h1,Dr]
 ·cases h;obtain⟨t,rfl,h1⟩:=hx;exact⟨.bool t,by simp only[RepC],by simp[Bl],.inl (by simp[Df]),λh=>by simp[L0]at h⟩
 ·rename_i e c0 c1 c2;obtain⟨s,rfl,h1,h2⟩:=hx;refine⟨.str s,?_,?_,.inl (by simp[Df]),λ_=>by simp[CC,CV.n,h1]⟩
  ·simp only[RepC];exact⟨trivial,h2⟩
  ·simp only[Bl];split at h
   ·rename_i n hn;have:=Fc hn v.ρ;split at h<;>cases h
    ·rename_i hz;have:=Hy hz;have:s.size=0:=by omega
     simp[CF,this]
    ·rename_i hz;have hs:¬s.size=0:=λe0=>by
      rw[e0]at h1;have:n=0:=by simp at h1;omega
      subst this;simp[ES]at hz
     simp only[CF,if_neg hs,LE.k_ev];rw[show n=(s.size:Int)by omega];omega
   ·split at h<;>cases h
    ·rename_i hb;have hb:=CK hb;simp only[CF,LE.addk_ev,LE.mul_ev,<-h1];split
     ·rename_i h0;simp[h0];omega
     ·omega
    ·simp only[CF,LE.addk_ev,LE.mul_ev,<-h1];split
     ·rename_i h0;simp[h0];omega
     ·omega
 ·rename_i e i n m' d o e' c';split at h<;>cases h;rename_i hs;obtain⟨h1,⟨aa,cap,rfl,h2,h3⟩,h4,h5,h6,_⟩:=hx;refine⟨.fz (v.δ i).l,?_,?_,.inr ⟨d,by simp,?_⟩,λ_=>by simp[CC,CV.n,h4]⟩
  ·simp only[RepC];refine⟨aa,cap,rfl,h2,h3.imp id ?_⟩;rintro⟨rfl,h7,h8,h9⟩;rw[h1]at h9;exact⟨_,_,rfl,h7,h8,NW hs h9⟩
  ·simp only[Bl,LE.addk_ev,h5,J7 hs];omega
  ·simp only[Df,h6,NX hs];omega
 ·cases h;cases hx;rename_i e' c';refine⟨.fz [],?_,by simp[Bl,Az],.inl (by simp[Df,Bi]),λ_=>by simp[CC,CV.n]⟩;simp only[RepC];exact⟨none,0,rfl,AW _,.inl trivial⟩
 ·rename_i k n k' c0 c1;split at h<;>cases h;rename_i hk;have hk:k=k':=by simpa using hk
  subst hk;obtain⟨j,h1,h2⟩:=hx;exact⟨.ar j,by simp only[RepC];exact h2,by simp[Bl,h1];omega,.inl (by simp[Df]),λ_=>by simp[CC,CV.n,h1]⟩
 ·cases h;cases hx;refine⟨.ar 0,?_,by simp[Bl],.inl (by simp[Df]),λ_=>by simp[CC,CV.n]⟩;simp only[RepC];exact⟨none,0,rfl,Ay _,AW _,.inl ⟨rfl,rfl⟩⟩
 ·cases h;cases hx;exact⟨.pn,by simp only[RepC],by simp[Bl],.inl (by simp[Df]),λh=>by simp[L0]at h⟩
 ·rename_i e m' d e' c0 c1;split at h<;>cases h;rename_i he;have he:=AH he;subst he;obtain⟨cv,h1,h2,h3⟩:=hx;refine⟨cv,?_,?_,.inr ⟨d,by simp,?_⟩,λh=>by simp[L0]at h⟩
  ·cases cv<;>simp only[RepC]at h1⊢<;>exact h1
  ·cases cv<;>simp only[RepC]at h1<;>simp only[Bl,LE.addk_ev]at h2⊢<;>omega
  ·cases cv<;>simp only[RepC]at h1<;>simp only[Df]at h3⊢<;>omega
 ·rename_i e q c';obtain⟨rfl,h1,hq⟩:=hx;refine⟨.kd (e.ev v.ρ),by simp only[RepC];exact⟨trivial,h1⟩,?_,.inl (by simp[Df]),λ_=>by simp only[CC,CV.n,hq]⟩;simp only[Bl];split at h
  ·rename_i hc;cases h;simp[EP,AH hc]
  ·split at h<;>cases h
   ·rename_i hp;simp only[Aq]at hp;have p1:=BU hg _ _ hp.1;have p2:=BU hg _ _ hp.2;simp only[LE.addk_ev,LE.sub_ev,LE.k_ev]at p1 p2;simp only[LE.k_ev,EP];split
    ·omega
    ·rw[if_pos (by omega)];omega
   ·simp only[LE.k_ev];exact Qa _ _
 ·cases h
def Hr(T:Ar)(gs:List LE):List SC->List CT->Option (LE×List LE)
 |[],[]=>some (.k 0,[])
 |c::l,t::ts=>match TF T gs c t,Hr T gs l ts with
  |some (m,d),some (m',d')=>some (.add m m',d++d')
  |_,_=>none
 |_,_=>none
structure Ad3(T:Ar)(v:Val)(l:List SC)(ts:List CT)(cs:List Value)(m:LE)(ds:List LE)(r:List CV):Prop where
 rep:∀(M':AT) (b o:Nat),DD v.M M'->(∀i x,cs[i]? =some x->M' b (o+i)=some x)->RepR T M' v.A r ts b o
 m:CP T r ts<=m.ev v.ρ
 d:EC T r ts<=0\/∃d∈ds,EC T r ts<=d.ev v.ρ
 n:l.all L0=true->∀i:Nat,((l[i]?).map λc=>(CC c).ev v.ρ)=(r[i]?).map CV.n
theorem Zq{gs:List LE}(hg:Holds v.ρ gs):∀{l:List SC}{ts:List CT}{m:LE}{ds:List LE}{cs:List Value},Hr T gs l ts=some (m,ds)->All2 (DC T v) l cs->∃r,Ad3 T v l ts cs m ds r
 |[],ts,m,ds,cs,h,hx=>by
  cases ts<;>simp only[Hr]at h<;>cases h;cases cs
  ·exact⟨[],λ_ _ _ _ _=>by simp only[RepR],by simp[CP],.inl (by simp[EC]),λ_ i=>by simp⟩
  ·exact hx.elim
 |c::l,ts,m,ds,cs,h,hx=>by
  cases ts with
  |nil=>simp only[Hr]at h;cases h
  |cons t ts=>
   cases cs with
   |nil=>exact hx.elim
   |cons x cs=>
    simp only[Hr]at h;split at h
    ·rename_i m1 d1 m2 d2 h1 h2;cases h;obtain⟨cv,C⟩:=Anz hg h1 hx.1;obtain⟨r,R⟩:=Zq hg h2 hx.2;refine⟨cv::r,?_,?_,?_,?_⟩
     ·intro M' b o hM hc;simp only[RepR];refine⟨⟨x,by simpa using hc 0 x (by simp),RepC.mono hM (λ_ _ h=>h) _ _ _ C.rep⟩,R.rep M' b (o+1) hM ?_⟩;intro i y hy;have:=hc (i+1) y (by simpa using hy);rwa[show o+(i+1)=o+1+i from by omega]at this
     ·simp only[CP,LE.add_ev];have:=C.m;have:=R.m;omega
     ·simp only[EC];rcases Ow (Df T cv t) (EC T r ts)with hle|hle
      ·rw[Int.max_eq_right hle];rcases R.d with h3|⟨d,h3,h4⟩
       ·exact .inl h3
       ·exact .inr ⟨d,by simp[h3],h4⟩
      ·rw[Int.max_eq_left hle];rcases C.d with h3|⟨d,h3,h4⟩
       ·exact .inl h3
       ·exact .inr ⟨d,by simp[h3],h4⟩
     ·intro hn i;simp only[EJ,Aq]at hn;cases i with
      |zero=>simp[C.n hn.1]
      |succ i=>simpa using R.n hn.2 i
    ·cases h
def Lg(T:Ar)(gs:List LE)(e:Nat):List (List SC)->Nat->Option (LE×List LE)
 |[],_=>some (.k 0,[])
 |l::ls,j=>match Hr T gs (Jt l (T e).cells) (T e).cells,Lg T gs e ls (j+1)with
  |some (m,d),some (m',d')=>
   match(T e).inv.isEmpty||((Jt l (T e).cells).all L0&&(T e).inv.all λf=>BF gs CD (LJ (Jt l (T e).cells) (.k j) f.c f.l))with
   |true=>some (.add (m.addk (T e).base) m',d.map (λq=>q.addk (T e).deep)++ .k (T e).deep::d')
   |false=>none
  |_,_=>none
structure Ad2(T:Ar)(v:Val)(e:Nat)(ls:List (List SC))(css:List (List Value))(j:Nat)(m:LE)(ds:List LE)(L:List (List CV)):Prop where
 len:L.length=ls.length
 rep:∀(M':AT) (b o:Nat),DD v.M M'->(∀i x,css.flatten[i]? =some x->M' b (o+i)=some x)->RepL T M' v.A L e b o j
 m:Az T L e<=m.ev v.ρ
 d:Bi T L e<=0\/∃d∈ds,Bi T L e<=d.ev v.ρ
theorem Zp{gs:List LE}:∀{l:List SC}{ts:List CT}{m:LE}{ds:List LE},Hr T gs l ts=some (m,ds)->l.length=ts.length
 |[],ts,m,ds,h=>by cases ts<;>simp only[Hr]at h<;>first|rfl|cases h
 |c::l,ts,m,ds,h=>by
  cases ts with
  |nil=>simp only[Hr]at h;cases h
  |cons t ts=>
   simp only[Hr]at h;split at h
   ·rename_i h2;simp[Zp h2]
   ·cases h
theorem TG{gs:List LE}(hg:Holds v.ρ gs){e:Nat}:∀{ls:List (List SC)}{j:Nat}{m:LE}{ds:List LE}{css:List (List Value)},Lg T gs e ls j=some (m,ds)->All2 (All2 (DC T v)) ls css->
 (∀cs∈css,cs.length=(T e).cells.length)/\∃L,Ad2 T v e ls css j m ds L
 |[],j,m,ds,css,h,hx=>by
  simp only[Lg]at h;cases h;cases css
  ·exact⟨by simp,[],rfl,λ_ _ _ _ _=>by simp only[RepL],by simp[Az],.inl (by simp[Bi])⟩
  ·exact hx.elim
 |l::ls,j,m,ds,css,h,hx=>by
  cases css with
  |nil=>exact hx.elim
  |cons cs css=>
   simp only[Lg]at h;split at h
   ·rename_i m1 d1 m2 d2 h1 h2;split at h<;>cases h;rename_i hi;obtain⟨r,R⟩:=Zq hg h1 (V3 hx.1);obtain⟨hl,L,S⟩:=TG hg h2 hx.2;have hcl:cs.length=(T e).cells.length:=by rw[<-(V3 (ts:=(T e).cells) hx.1).length,Zp h1]
    refine⟨?_,r::L,by simp[S.len],?_,?_,?_⟩
    ·intro c hc;rcases Ao.1 hc with rfl|hc
     ·exact hcl
     ·exact hl c hc
    ·intro M' b o hM hc;simp only[RepL];refine⟨R.rep M' b o hM λi x hi'=>hc i x ?_,?_,S.rep M' b _ hM λi x hi'=>?_⟩
     ·simp only[E3];rw[GD (C3.1 hi').1];exact hi'
     ·intro f hf;simp only[HM,Aq]at hi;rcases hi with hi|⟨hn,hi⟩
      ·cases hq:(T e).inv with
       |nil=>rw[hq]at hf;simp at hf
       |cons a b=>rw[hq]at hi;simp at hi
      ·simp only[Bg]at hi;have:=BU hg _ _ (hi f hf);rw[WF (j:=j) (r:=r) (by simp) (R.n hn)]at this;exact this
     ·rw[<-hcl,Fe];refine hc _ x ?_;simp only[E3];rw[Me (by omega)];simpa using hi'
    ·simp only[Az,LE.add_ev,LE.addk_ev];have:=R.m;have:=S.m;omega
    ·simp only[Bi];rcases Ow ((T e).deep+EC T r (T e).cells) (Bi T L e)with hle|hle
     ·rw[Int.max_eq_right hle];rcases S.d with h3|⟨d,h3,h4⟩
      ·exact .inl h3
      ·exact .inr ⟨d,by simp[h3],h4⟩
     ·rw[Int.max_eq_left hle];right;rcases R.d with h3|⟨d,h3,h4⟩
      ·exact⟨.k (T e).deep,by simp,by simp only[LE.k_ev];omega⟩
      ·exact⟨d.addk (T e).deep,by simp only[B3,BY];exact .inl ⟨d,h3,rfl⟩,by simp only[LE.addk_ev];omega⟩
   ·cases h
end
inductive LK where
 |fz (e:Nat)
 |ar (k:IntKind)
 |no
structure MGo(P:Program)(T:Ar)(X:Cx)(v:Val)(st:St)(w:World)(s:Sem Value)(ev:EV)(st':St)(x:Value)(v':Val)(w':World):Prop where
 run:s.run P w= .ok x w'
 ext:Ext st.next v v'
 next:st.next<=st'.next
 env:st'.env=st.env
 hp:Hp T X v' st' w'
 de:DE T v' ev x
 ok:ev.ok st'.next=true
 keep:∀p∈st.mem,∀b,v.β p.1=some b->w'.heap[b]? =w.heap[b]?
section
variable{P:Program}{T:Ar}{X:Cx}{nt:Nat}{v v':Val}{st st':St}{a:Act}{w w':World}
variable{ev:EV}{s:Sem Value}
theorem Den.putM(h:Den T X nt v st a w)(m:MGo P T X v st w s ev st' x v' w'){d:Nat}(hd:Nat.blt d nt=true):
 Den T X nt v' {st' with env:=(d,ev)::st.env} (a.put (some d) x) w':=by
 have hd:d<nt:=by simpa[A_]using hd
 refine⟨by simpa[Act.put]using h.size,by simpa[Act.put]using h.defers,?_,m.hp.env _⟩;intro i e hi;rw[We hd h.size];simp only[Ck.get_nil,Ck.get_cons]at hi;split at hi
 ·rename_i hb;cases hi;rw[if_pos (AH hb)];exact⟨x,rfl,m.de,m.ok⟩
 ·rename_i hb;rw[if_neg (λe=>by subst e;simp at hb)];obtain⟨y,e1,e2,e3⟩:=h.env i e hi;exact⟨y,e1,DE.ext m.ext e3 e2,EV.ok_mono m.next e3⟩
def N0(st:St)(t:Nat)(l:List SC):EV×St:=(.sc (.vp st.next 0),{st with mem:=(st.next,t,l)::st.mem,next:=st.next+1})
variable{cs:List Value}{l:List SC}{t:Nat}
theorem Aa6(hp:Hp T X v st w)(hl:All2 (DC T v) l cs)(ho:l.all (SC.ok st.next)=true)(hr:s.run P w= .ok (.pointer (some ⟨w.heap.size,0,none⟩)) (w.alloc (.cells cs.toArray t))):
 MGo P T X v st w s (N0 st t l).1 (N0 st t l).2 (.pointer (some ⟨w.heap.size,0,none⟩)) (v.newβ st.next (some w.heap.size)) (w.alloc (.cells cs.toArray t)):=by
 refine⟨hr,X8 _ _ _,Mk _,rfl,hp.alloc t hl ho,⟨w.heap.size,by simp[Val.newβ],rfl⟩,?_,λp hpm b hb=>heap_alloc_old w _ b (hp.mem_lt hpm hb)⟩;simp[N0,EV.ok,SC.ok,A_]
def Si(ty:Nat->Option TI)(st:St)(t:Nat):Option (EV×St):=
 match ty t with
 |some i=>match JP i.zero with
  |some l=>some (N0 st t l)
  |none=>none
 |none=>none
variable{ty:Nat->Option TI}
theorem Aeo(hty:CB P ty)(hp:Hp T X v st w)(h:Si ty st t=some (ev,st')):∃x v' w',MGo P T X v st w (Instr.alloc t true (.tuple #[])) ev st' x v' w':=by
 unfold Si at h;split at h
 ·rename_i i hi;split at h
  ·rename_i l hl;have h:=Option.some.inj h;obtain⟨z,h1,h2,_⟩:=(hty _ _ hi).zv;have hl':=OP (T:=T) (v:=v) st.next hl;have:=Aa6 (P:=P) hp (t:=t) hl'.1 hl'.2 (s:=Instr.alloc t true (.tuple #[])) (by simp[Instr.alloc,newVar,newRow,h1,h2]);rw[h]at this;exact⟨_,_,_,this⟩
  ·cases h
 ·cases h
def SD(st:St)(t:Nat)(x:Operand):Option (EV×St):=
 match(DO st x).bind EV.cells with
 |some l=>some (N0 st t l)
 |none=>none
theorem Afb(h:Den T X nt v st a w){x:Operand}(hr:SD st t x=some (ev,st')):∃y v' w',MGo P T X v st w (Instr.box t (a.eval x)) ev st' y v' w':=by
 unfold SD at hr;split at hr
 ·rename_i l hl;have hr:=Option.some.inj hr;simp only[BV]at hl;obtain⟨e,h1,h2⟩:=hl;have h3:=Gz h h1;have h4:=DE.cells h2 h3.1;have hlo:l.all (SC.ok st.next)=true:=by
   cases e with
   |sc c=>cases h2;show(SC.ok st.next c&&true)=true;rw[Om];exact h3.2
   |agg l=>cases h2;exact h3.2
   |tup=>cases h2
  have:=Aa6 (P:=P) h.hp (t:=t) h4 hlo (s:=Instr.box t (a.eval x)) (by simp[Instr.box,newVar,newRow]);rw[hr]at this;exact⟨_,_,_,this⟩
 ·cases hr
def WA(ty:Nat->Option TI)(st:St)(t:Nat)(x y:Operand):Option St:=
 match ty t,BT st x,(DO st y).bind EV.cells with
 |some i,some (.vp g o),some l=>match Ck.get st.mem g with
  |some (u,cs)=>match Nat.beq l.length i.size&&Nat.ble (o+i.size) cs.length with
   |true=>some {st with mem:=(g,u,cs.take o++l++cs.drop (o+i.size))::FA st.mem g}
   |false=>none
  |none=>none
 |some i,some (.ap k),some [.int k' _]=>match decide (k=k')&&Nat.beq i.size 1 with
  |true=>some st
  |false=>none
 |_,_,_=>none
variable{n o:Nat}{cs':List Value}
theorem Auf{l':List SC}(h:All2 (DC T v) l cs)(h':All2 (DC T v) l' cs')(hn:l'.length=n):All2 (DC T v) (l.take o++l'++l.drop (o+n)) (Ci cs o cs'):=by
 have:=h'.length;unfold Ci;rw[show cs'.length=n by omega];exact((h.take o).append h').append (h.drop _)
theorem All2.one:∀{l:List SC}{cs:List Value},All2 (DC T v) l cs->∀c∈cs,c.oneCell'=true
 |[],[],_,c,hc=>by simp at hc
 |a::l,b::cs,h,c,hc=>by
  rcases Ao.1 hc with rfl|hc
  ·exact DC.one h.1
  ·exact All2.one h.2 c hc
 |[],_::_,h,_,_=>h.elim
 |_::_,[],h,_,_=>h.elim
theorem Auu(hty:CB P ty)(h:Den T X nt v st a w){x y:Operand}(hr:WA ty st t x y=some st'):
 ∃w',(Instr.storeAt t (a.eval x) (a.eval y)).run P w= .ok () w'/\Hp T X v st' w'/\st'.env=st.env/\st'.next=st.next/\∀p∈st.mem,(∀o,BT st x≠some (.vp p.1 o))->∀b,v.β p.1=some b->w'.heap[b]? =w.heap[b]? :=by
 unfold WA at hr;split at hr
 ·rename_i i g o l hi hx hy;simp only[BV]at hy;obtain⟨e,hy1,hy2⟩:=hy;have hy3:=Gz h hy1;have hy4:=DE.cells hy2 hy3.1;have hlo:l.all (SC.ok st.next)=true:=by
   cases e with
   |sc c=>cases hy2;show(SC.ok st.next c&&true)=true;rw[Om];exact hy3.2
   |agg l=>cases hy2;exact hy3.2
   |tup=>cases hy2
  split at hr
  ·rename_i u cs hg;split at hr<;>cases hr;rename_i hb;simp only[Aq]at hb;have hlen:=AH hb.1;have hfit:=CK hb.2;obtain⟨b,hb1,hb2⟩:=(Db h hx).1;have hm:=Eh hg;obtain⟨⟨b',vs,e1,e2,e3,e4,_⟩,e5⟩:=h.hp.mem _ hm;simp only at e1 e2 e3;rw[hb1]at e1;cases e1;have hvl:=e3.length;have hyl:=hy4.length;have ust:=(hty _ _ hi).ty;have hfit2:o+(a.eval y).cells.toList.length<=vs.length:=by omega
   have hrun:=CG (w:=w) ust (b:=b) (o:=o) (cs:=vs) (vs:=(a.eval y).cells.toList) (v:=a.eval y) (u:=u) (by simp) (by omega) (All2.one hy4) e2 hfit2;refine⟨_,?_,h.hp.store hm hb1 (Auf e3 hy4 hlen) ?_ ?_,rfl,rfl,λp hpm hne c hc=>?_⟩
   ·rw[hb2];simp only[Instr.storeAt,Instr.sureAddr,Sem.run_bind,Sem.run_pure,Result.andThen_ok];exact hrun
   ·simp only[C6,Aq]at e5;simp only[HN,Aq,Bg]at e5 hlo⊢;exact⟨⟨λc hc=>e5.2 c (_root_.Fd hc),hlo⟩,λc hc=>e5.2 c (Fu hc)⟩
   ·intro c hc;simp only[Ci,B3]at hc;rcases hc with(hc|hc)|hc
    ·exact e4 c (_root_.Fd hc)
    ·exact All2.one hy4 c hc
    ·exact e4 c (Fu hc)
   ·refine setRow_other w b c _ λe=>?_;subst e;have:=h.hp.memU p hpm _ hm c hc hb1;simp only at this;exact hne o (this▸hx)
  ·cases hr
 ·rename_i i k k' e hi hx hy;split at hr<;>cases hr;rename_i hb;simp only[Aq]at hb;have hk:k=k':=by simpa using hb.1
  subst hk;have hsz:=AH hb.2;simp only[BV]at hy;obtain⟨ey,hy1,hy2⟩:=hy;have hy3:=Gz h hy1;have hy4:=DE.cells hy2 hy3.1;obtain⟨b,o,sz,hx1,hx2,hx3⟩:=(Db h hx).1;obtain⟨cs,u,hc1,hc2,hc3⟩:=h.hp.hA b k sz hx2;have hyl:=hy4.length;simp only[Cg,DS]at hyl;have hfit:o+(a.eval y).cells.toList.length<=cs.length:=by omega
  have hrun:=CG (w:=w) (hty _ _ hi).ty (b:=b) (o:=o) (cs:=cs) (vs:=(a.eval y).cells.toList) (v:=a.eval y) (u:=u) (by simp) (by omega) (All2.one hy4) hc1 hfit;refine⟨_,?_,h.hp.arrSet hx2 (cs':=Ci cs o (a.eval y).cells.toList) (by rw[Acs hfit];exact hc2) ?_,rfl,rfl,λp hpm _ c hc=>?_⟩
  ·rw[hx1];simp only[Instr.storeAt,Instr.sureAddr,Sem.run_bind,Sem.run_pure,Result.andThen_ok];exact hrun
  ·intro c hc;simp only[Ci,B3]at hc;rcases hc with(hc|hc)|hc
   ·exact hc3 c (_root_.Fd hc)
   ·cases hcs:(a.eval y).cells.toList with
    |nil=>rw[hcs]at hc;simp at hc
    |cons z zs=>
     rw[hcs]at hc hy4;cases zs with
     |nil=>
      simp only[Ao,AB,or_false]at hc;subst hc;exact⟨_,hy4.1⟩
     |cons=>exact hy4.2.elim
   ·exact hc3 c (Fu hc)
  ·refine setRow_other w b c _ λe=>?_;subst e;obtain⟨⟨b',cs',g1,_,_,_,_,g6,_⟩,_⟩:=h.hp.mem p hpm;rw[hc]at g1;cases g1;rw[hx2]at g6;cases g6
 ·cases hr
def ED{α:Type}:List (Nat×α)->Nat->Bool
 |[],_=>true
 |(i,_)::r,k=>Nat.beq i k&&ED r (k+1)
theorem ZN{α:Type}:∀{l:List (Nat×α)}{k:Nat},ED l k=true->l=((l.map (·.2)).zipIdx k).map λp=>(p.2,p.1)
 |[],_,_=>rfl
 |(i,x)::r,k,h=>by
  simp only[ED,Aq]at h;have:=AH h.1;subst this;simp only[CA,O7];rw[<-ZN h.2]
def Lx(st:St)(el e n:Nat)(m:LE)(ds:List LE)(own:List (Nat×Nat×Nat×LE)):EV×St:=
 (.sc (.fz e st.next (.k n) (.s (st.next+1)) (.s (st.next+2)) (some st.next)),
  {st with own:=(st.next,el,e,.k n)::own,facts:=[.sub m (.s (st.next+1)),.s (st.next+1)]++st.facts,maxs:=[(st.next+2,ds)]++st.maxs,next:=st.next+3})
def N4(k:Nat)(m:LE)(ds:List LE):Bool:=m.ok k&&ds.all (LE.ok k)
def OV(T:Ar)(ty:Nat->Option TI)(lk:Nat->LK)(st:St)(t len:Nat)(parts:List (Nat×Operand)):Option (EV×St):=
 match ty t with
 |some ti=>match ti.d with
  | .slice el=>match ty el with
   |some te=>match L5 st parts with
    |some ps=>match ED parts 0&&Nat.beq parts.length len&&Nat.blt 0 te.size&&Nat.ble (len*te.size) 16777216 with
     |true=>match lk t with
      | .fz e=>match Nat.beq te.size (T e).cells.length with
       |true=>match Lg T st.facts e (ps.map (·.2)) 0 with
        |some (m,ds)=>match N4 st.next m ds with
         |true=>some (Lx st el e len m ds st.own)
         |false=>none
        |none=>none
       |false=>none
      | .ar k=>match Nat.beq te.size 1&&ps.all (λp=>match p.2 with|[.int k' _]=>decide (k=k')|_=>false)with
       |true=>some (.sc (.ar k (.k len)),st)
       |false=>none
      | .no=>none
     |false=>none
    |none=>none
   |none=>none
  |_=>none
 |none=>none
variable{len:Nat}
theorem Wn{el size:Nat}{te:TI}(ht:P.underlying t=some (.slice el))(hte:KO P el te)(hs:te.size=size)(hpos:0<size)(hmax:len*size<=16777216){ps:List (Nat×Value)}(ho:ED ps 0=true)(hl:ps.length=len)
 (hc:∀p∈ps,p.2.cells.size=size) (w:World):
 (Instr.buildSlice t len ps.toArray).run P w= .ok (.slice (some ⟨w.heap.size,0,none⟩) len len) (w.alloc (.cells ((ps.map λp=>p.2.cells.toList).flatten).toArray el)):=by
 subst hs;obtain⟨z,z1,z2,_⟩:=hte.zv;have hnm:¬(len*te.size>2 ^ 24):=by omega
 have hzl:=hte.len;have key:∀zs:Array Value,(Instr.fill (λi=>some (i*te.size,te.size)) ((Array.range (len*te.size)).map (zs[·%zs.size]!)) ps)=some (ps.map λp=>p.2.cells.toList).flatten.toArray:=by
  intro zs;have:=Go.Great.fill_whole hpos (ps.map (·.2)) ((Array.range (len*te.size)).map (zs[·%zs.size]!)) (by
   intro x hx;simp only[BY]at hx;obtain⟨p,hp,rfl⟩:=hx;exact hc p hp) (by simp[hl])
  rw[<-ZN ho]at this;rw[this];congr 2;rw[List.flatMap_def,Ru];rfl
 by_cases h0:len*te.size=0
 ·simp only[Instr.buildSlice,Sem.run_bind,run_underlying ht,Result.andThen_ok,hte.ty.size,if_neg hnm,if_pos h0,Sem.run_pure,O6,key];simp[newRow]
 ·simp only[Instr.buildSlice,Sem.run_bind,run_underlying ht,Result.andThen_ok,hte.ty.size,if_neg hnm,if_neg h0,z1,Sem.run_pure,O6,key];simp[newRow]
end
section
variable{P:Program}{T:Ar}{X:Cx}{nt:Nat}{v v':Val}{st st':St}{a:Act}{w w':World}
theorem Yb:∀{ls:List (List SC)}{css:List (List Value)},All2 (All2 (DC T v)) ls css->∀c∈css,∀x∈c,x.oneCell'=true
 |[],[],_,c,hc,_,_=>by simp at hc
 |l::ls,d::css,h,c,hc,x,hx=>by
  rcases Ao.1 hc with rfl|hc
  ·exact All2.one h.1 x hx
  ·exact Yb h.2 c hc x hx
 |[],_::_,h,_,_,_,_=>h.elim
 |_::_,[],h,_,_,_,_=>h.elim
theorem Asf{ps:List (Nat×List SC)}{vs:List (Nat×Value)}(h:All2 (λp q=>p.1=q.1/\All2 (DC T v) p.2 q.2.cells.toList/\p.2.all (SC.ok st.next)=true) ps vs):
 All2 (All2 (DC T v)) (ps.map (·.2)) (vs.map λq=>q.2.cells.toList)/\ED ps 0=ED vs 0:=by
 suffices ∀(k:Nat),All2 (All2 (DC T v)) (ps.map (·.2)) (vs.map λq=>q.2.cells.toList)/\ED ps k=ED vs k from this 0
 induction ps generalizing vs with
 |nil=>cases vs with
  |nil=>intro k;exact⟨trivial,rfl⟩
  |cons=>exact h.elim
 |cons p ps ih=>cases vs with
  |nil=>exact h.elim
  |cons q vs=>
   intro k;obtain⟨h1,h2⟩:=h;have:=ih h2 (k+1);refine⟨⟨h1.2.1,this.1⟩,?_⟩;obtain⟨i,l⟩:=p;obtain⟨j,y⟩:=q;simp only at h1;simp only[ED,this.2,h1.1]
variable{cs:List Value}{N cap b:Nat}
theorem Zv{ρ:Nat->Int}{L:List (List CV)}{ne me de:LE}
 (hL:L≠[]->RepL T (v.frz k ρ ⟨e,L,b,0⟩ b cap N cs).M v.A L e b 0 0) (hlc:L.length<=cap) (hcm:cap<=maxLen)
 (hn:ne.ev (v.frz k ρ ⟨e,L,b,0⟩ b cap N cs).ρ=L.length) (hm:me.ev (v.frz k ρ ⟨e,L,b,0⟩ b cap N cs).ρ=Az T L e) (hd:de.ev (v.frz k ρ ⟨e,L,b,0⟩ b cap N cs).ρ=Bi T L e):
 DC T (v.frz k ρ ⟨e,L,b,0⟩ b cap N cs) (.fz e k ne me de (some k)) (.slice (some ⟨b,0,none⟩) L.length cap):=by
 have hδ:(v.frz k ρ ⟨e,L,b,0⟩ b cap N cs).δ k=⟨e,L,b,0⟩:=by simp[Val.frz]
 refine⟨by rw[hδ],?_,by rw[hδ];exact hn,by rw[hδ];exact hm,by rw[hδ];exact hd,?_⟩
 ·rw[hδ];refine⟨_,_,rfl,by simp only;omega,?_⟩;by_cases h0:L=[]
  ·exact .inl h0
  ·exact .inr ⟨rfl,hlc,hcm,hL h0⟩
 ·intro g hg;cases hg;have hβ:(v.frz k ρ ⟨e,L,b,0⟩ b cap N cs).β k=some b:=by simp[Val.frz]
  have hκ:(v.frz k ρ ⟨e,L,b,0⟩ b cap N cs).κ k=(cap,0):=by simp[Val.frz]
  rw[hβ,hκ];exact⟨_,rfl⟩
variable{ds:List LE}{m:LE}
theorem Ar9(h:N4 k m ds=true):m.ok k=true/\∀d∈ds,d.ok k=true:=by
 simpa only[N4,Aq,Bg]using h
variable{s:Sem Value}{n:Nat}
theorem Aa0(hp:Hp T X v st w){el:Nat}{L:List (List CV)}(hmd:N4 st.next m ds=true)(hos:w'.os=w.os)(ht:w'.tape=w.tape)(ho:w'.output=w.output)(hsz:w.heap.size<=w'.heap.size)
 (hsame:∀c,c<w.heap.size->c≠b->w'.heap[c]? =w.heap[c]?) (hB:Blk w' b cs el) (hN:N<=cs.length) (hcons:∀o x,v.M b o=some x->o<N/\cs[o]? =some x) (hAb:v.A b=none)
 (hmb:∀p∈st.mem,v.β p.1≠some b) {own':List (Nat×Nat×Nat×LE)} (hown:∀p∈own',p∈st.own/\v.β p.1≠some b) (hone:∀o x,o<N->cs[o]? =some x->x.oneCell'=true) (hXB:X.B b\/X.w0.heap.size<=b)
 (hNn:N=n*(T e).cells.length) (hcl:cs.length=cap*(T e).cells.length) (hnc:n<=cap) (hcm:cap<=maxLen) (hLn:L.length=n)
 (hrep:∀M',DD v.M M'->(∀i x,i<N->cs[i]? =some x->M' b i=some x)->RepL T M' v.A L e b 0 0) (hm:Az T L e<=m.ev v.ρ) (hd:Bi T L e<=0\/∃d∈ds,Bi T L e<=d.ev v.ρ) 
 (hrun:s.run P w= .ok (.slice (some ⟨b,0,none⟩) n cap) w'):∃x v',MGo P T X v st w s (Lx st el e n m ds own').1 (Lx st el e n m ds own').2 x v' w':=by
 obtain⟨hmo,hdo⟩:=Ar9 hmd;let ρ:Nat->Int:=λi=>if i=st.next+1 then Az T L e else Bi T L e
 let v1:=v.frz st.next ρ ⟨e,L,b,0⟩ b cap N cs;have r1:v1.ρ (st.next+1)=Az T L e:=by
  have:¬st.next+1<st.next:=by omega
  simp[v1,Val.frz,this,ρ]
 have r2:v1.ρ (st.next+2)=Bi T L e:=by
  have:¬st.next+2<st.next:=by omega
  simp[v1,Val.frz,this,ρ]
 have hρ:∀i,i<st.next->v1.ρ i=v.ρ i:=λi hi=>by simp[v1,Val.frz,hi]
 have hmev:m.ev v1.ρ=m.ev v.ρ:=Bj hρ hmo;have q1:=EE T L e;have q2:=IZ T e L;have H:=hp.frz (w':=w') (b:=b) (N:=N) (n:=n) (cap:=cap) (cs:=cs) (t:=el) (e:=e) (ne:=.k n) ρ ⟨e,L,b,0⟩ hos ht ho hsz hsame hB hN hcons hAb hmb hown hone hXB hNn hcl hnc hcm (nx:=st.next+3) (by omega) rfl (by simp)
  (fs:=[.sub m (.s (st.next+1)),.s (st.next+1)]) (by
   intro f hf;simp only[Ao,AB,or_false]at hf;rcases hf with rfl|rfl
   ·have:LE.ev v1.ρ (.sub m (.s (st.next+1)))=m.ev v.ρ-Az T L e:=by simp only[LE.sub_ev,LE.s_ev,r1,hmev]
    show 0<=LE.ev v1.ρ _;rw[this];omega
   ·show 0<=LE.ev v1.ρ _;rw[LE.s_ev,r1];exact q1) (by
   intro f hf;simp only[Ao,AB,or_false]at hf;rcases hf with rfl|rfl
   ·exact Rq (LE.ok_mono (by omega) hmo) (by simp[LE.ok,LE.s,Bq,A_])
   ·simp[LE.ok,LE.s,Bq,A_])
  (ms:=[(st.next+2,ds)]) (by
   intro p hpm;simp only[Ao,AB,or_false]at hpm;subst hpm;refine⟨?_,?_⟩
   ·show v1.ρ (st.next+2)<=0\/∃d∈ds,v1.ρ (st.next+2)<=d.ev v1.ρ;rw[r2];rcases hd with hd|⟨d,h1,h2⟩
    ·exact .inl hd
    ·exact .inr ⟨d,h1,by rw[Bj hρ (hdo d h1)];exact h2⟩
   ·simp only[Gy,Aq,A_,Bg];exact⟨by omega,λd hdm=>LE.ok_mono (by omega) (hdo d hdm)⟩)
 have hMle:=H.1.M;have hMb:∀i x,i<N->cs[i]? =some x->v1.M b i=some x:=λi x hi hx=>by simp[v1,Val.frz,hi,hx]
 refine⟨.slice (some ⟨b,0,none⟩) n cap,v1,hrun,H.1,by show st.next<=st.next+3;omega,rfl,H.2,?_,?_,?_⟩
 ·have:=Zv (v:=v) (k:=st.next) (b:=b) (cap:=cap) (N:=N) (cs:=cs) (ρ:=ρ) (e:=e) (L:=L) (ne:=.k n) (me:=.s (st.next+1)) (de:=.s (st.next+2)) (λ_=>hrep _ hMle hMb) (by omega) hcm (by simp[hLn]) (by rw[LE.s_ev];exact r1) (by rw[LE.s_ev];exact r2);rw[hLn]at this;exact this
 ·simp[Lx,EV.ok,SC.ok,LE.ok,LE.s,LE.k,Bq,Iw,A_]
 ·intro p hpm c hc;exact hsame c (hp.mem_lt hpm hc) (λe=>hmb p hpm (e▸hc))
variable{ev:EV}{len t:Nat}{ty:Nat->Option TI}
theorem Yn{lk:Nat->LK}(hty:CB P ty)(h:Den T X nt v st a w){parts:List (Nat×Operand)}(hr:OV T ty lk st t len parts=some (ev,st')):
 ∃x v' w',MGo P T X v st w (Instr.buildSlice t len (parts.map λp=>(p.1,a.eval p.2)).toArray) ev st' x v' w':=by
 unfold OV at hr;split at hr
 ·rename_i ti hti;split at hr
  ·rename_i el hd;have u1:=(hty _ _ hti).d;rw[hd]at u1;split at hr
   ·rename_i te hte;have u2:=hty _ _ hte;split at hr
    ·rename_i ps hps;split at hr
     ·rename_i hb;simp only[Aq]at hb;have hord:=hb.1.1.1;have hlen:=AH hb.1.1.2;have hpos:0<te.size:=by simpa[A_]using hb.1.2
      have hmax:=CK hb.2;have hparts:=VY h hps;obtain⟨hcss,hio⟩:=Asf hparts;have hordp:∀{α:Type} (f:Operand->α) (l:List (Nat×Operand)) (k:Nat),ED (l.map λp=>(p.1,f p.2)) k=ED l k:=by
       intro α f l;induction l with
       |nil=>intro k;rfl
       |cons p l ih=>intro k;obtain⟨i,y⟩:=p;simp only[CA,ED,ih]
      have hordv:ED (parts.map λp=>(p.1,a.eval p.2)) 0=true:=by rw[hordp];exact hord
      have hsame:∀c,c<w.heap.size->∀o:Obj,(w.alloc o).heap[c]? =w.heap[c]? :=λc hc o=>heap_alloc_old w o c hc;split at hr
      ·rename_i e hlk;split at hr
       ·rename_i hsz;have hsz:=AH hsz;split at hr
        ·rename_i m ds hfit;split at hr
         ·rename_i hmd;have hr:=Option.some.inj hr;obtain⟨hcl,L,S⟩:=TG h.hp.facts hfit hcss;have hlp:(parts.map λp=>(p.1,a.eval p.2)).length=len:=by simpa using hlen
          have hLl:L.length=len:=by
           have h1:=S.len;have h2:=hparts.length;simp at h1 h2;omega
          have hcs:∀p∈(parts.map λp=>(p.1,a.eval p.2)),p.2.cells.size=te.size:=by
           intro p hp;have:=hcl p.2.cells.toList (BY.2 ⟨p,hp,rfl⟩);rw[hsz,<-this];simp
          have hrun:=Wn u1 u2 rfl hpos hmax hordv hlp hcs w;have hcl2:((parts.map λp=>(p.1,a.eval p.2)).map λp=>p.2.cells.toList).flatten.length=len*(T e).cells.length:=by
           have:∀(l:List (List Value)),(∀c∈l,c.length=(T e).cells.length)->l.flatten.length=l.length*(T e).cells.length:=by
            intro l;induction l with
            |nil=>intro _;simp
            |cons c l ih=>
             intro hc;simp only[E3,Bh,Cg,hc c (by simp),ih (λd hd=>hc d (by simp[hd])),Dq];omega
           rw[this _ hcl];simp[hlen]
          have hMn:=h.hp.M_new;obtain⟨x,v',hgo⟩:=Aa0 (P:=P) (w':=w.alloc (.cells (((parts.map λp=>(p.1,a.eval p.2)).map λp=>p.2.cells.toList).flatten).toArray el)) h.hp (el:=el) (e:=e) (n:=len) (cap:=len) (b:=w.heap.size)
           (N:=len*(T e).cells.length) (cs:=((parts.map λp=>(p.1,a.eval p.2)).map λp=>p.2.cells.toList).flatten) (m:=m) (ds:=ds) (L:=L) hmd rfl rfl rfl (by simp) (λc hc _=>hsame c hc _) Cf (by omega)
           (λo x hx=>by rw[hMn o]at hx;cases hx) h.hp.A_new (λp hp he=>by have:=h.hp.mem_lt hp he;omega) (own':=st.own) (λp hp=>⟨hp,λhe=>by have:=h.hp.own_lt hp he;omega⟩) (λo x _ hx=>by
            have hx:=BA hx;simp only[List.mem_flatten]at hx;obtain⟨c,hc1,hc2⟩:=hx;clear hr hrun;exact Yb hcss c hc1 x hc2) (.inr h.hp.fra.size) V hcl2 (Ay _) (by simp only[maxLen];have:len*1<=len*te.size:=IJ _ hpos;omega) hLl
           (λM' hM hc=>S.rep M' w.heap.size 0 hM (λi x hx=>by rw[BO];exact hc i x (by have:=(C3.1 hx).1;omega) hx)) S.m S.d hrun
          rw[hr]at hgo;exact⟨x,v',_,hgo⟩
         ·cases hr
        ·cases hr
       ·cases hr
      ·rename_i k hlk;split at hr
       ·rename_i hall;cases hr;simp only[Aq,Bg]at hall;have hsz:=AH hall.1;have hlp:(parts.map λp=>(p.1,a.eval p.2)).length=len:=by simpa using hlen
        have hint:∀p∈(parts.map λp=>(p.1,a.eval p.2)),∃n,p.2.cells.toList=[.int k n]/\Bs k n:=by
         intro q hq;have:∀{ps:List (Nat×List SC)}{vs:List (Nat×Value)},All2 (λp q=>p.1=q.1/\All2 (DC T v) p.2 q.2.cells.toList/\p.2.all (SC.ok st.next)=true) ps vs->(∀p∈ps,(match p.2 with|[.int k' _]=>decide (k=k')|_=>false)=true)->
          ∀q∈vs,∃n,q.2.cells.toList=[.int k n]/\Bs k n:=by
          intro ps;induction ps with
          |nil=>intro vs hv _ q hq;cases vs with
           |nil=>simp at hq
           |cons=>exact hv.elim
          |cons p ps ih=>intro vs hv hp q hq;cases vs with
           |nil=>simp at hq
           |cons y vs=>
            rcases Ao.1 hq with rfl|hq
            ·have h1:=hp p (by simp);have h2:=hv.1.2.1;split at h1
             ·rename_i k' e he;have h1:k=k':=by simpa using h1
              subst h1;rw[he]at h2;cases hz:q.2.cells.toList with
              |nil=>rw[hz]at h2;exact h2.elim
              |cons z zs=>
               rw[hz]at h2;cases zs with
               |nil=>obtain⟨⟨h3,h4⟩,_⟩:=h2;exact⟨_,by rw[h3],h4⟩
               |cons=>exact h2.2.elim
             ·cases h1
            ·exact ih hv.2 (λp hp'=>hp p (by simp[hp'])) q hq
         exact this hparts hall.2 q hq
        have hrun:=Wn u1 u2 rfl hpos hmax hordv hlp (λp hp=>by obtain⟨n,h1,_⟩:=hint p hp;have h9:=congrArg List.length h1;simp at h9;omega) w;have hmem:∀x∈((parts.map λp=>(p.1,a.eval p.2)).map λp=>p.2.cells.toList).flatten,∃n,x= .int k n/\Bs k n:=by
         intro x hx;simp only[List.mem_flatten]at hx;obtain⟨c,hc1,hc2⟩:=hx;obtain⟨p,hp1,rfl⟩:=BY.1 hc1;obtain⟨n,h1,h2⟩:=hint p hp1;rw[h1]at hc2;simp only[Ao,AB,or_false]at hc2;exact⟨n,hc2,h2⟩
        have hN:=h.hp.newArr (k:=k) (cs:=((parts.map λp=>(p.1,a.eval p.2)).map λp=>p.2.cells.toList).flatten) el hmem;refine⟨_,_,_,hrun,hN.1,Ay _,rfl,hN.2,?_,?_,λp hpm b hb=>hsame b (h.hp.mem_lt hpm hb) _⟩
        ·have hcl2:((parts.map λp=>(p.1,a.eval p.2)).map λp=>p.2.cells.toList).flatten.length=len:=by
          have:∀(l:List (List Value)),(∀c∈l,c.length=1)->l.flatten.length=l.length:=by
           intro l;induction l with
           |nil=>intro _;simp
           |cons c l ih=>
            intro hc;simp only[E3,Bh,Cg,hc c (by simp),ih (λd hd=>hc d (by simp[hd]))];omega
          rw[this _ (λc hc=>by obtain⟨p,hp1,rfl⟩:=BY.1 hc;obtain⟨n,h1,_⟩:=hint p hp1;rw[h1];rfl)];simp[hlen]
         refine⟨len,by simp,some ⟨w.heap.size,0,none⟩,len,rfl,Ay _,by simp only[maxLen];have:len*1<=len*te.size:=IJ _ hpos;omega,.inr ⟨_,0,len,rfl,?_,by omega⟩⟩;simp only[Val.newA,if_true,hcl2]
        ·rfl
       ·cases hr
      ·cases hr
     ·cases hr
    ·cases hr
   ·cases hr
  ·cases hr
 ·cases hr
end
end Go.Ck