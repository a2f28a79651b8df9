import Derived.Test.YtdldhfocpandoaaGreatCkE
noncomputable section
set_option maxHeartbeats 8000000
set_option maxRecDepth 8000
namespace Go.Ck
open Go.Sx
def Iy(P:Program)(tmps:Array Value)(w:World):ResultVar->Value->Prop
 | .tmp t,x=>tmps.getD t undef=x
 | .cell a t,x=>(do loadVar t (<-asAddr (tmps.getD a undef)):Sem Value).run P w= .ok x w
def Kw:List Value->Value
 |[x]=>x
 |xs=>.tuple xs.toArray
variable{xs:List Value}{rs:List ResultVar}{fn:Func}{P:Program}
theorem Abv{tmps:Array Value}{w:World}(hr:fn.results=rs.toArray)(hx:All2 (Iy P tmps w) rs xs):
 (results fn tmps).run P w= .ok (Kw xs) w:=by
 have key:∀(rs:List ResultVar) (xs:List Value),All2 (Iy P tmps w) rs xs->
  (rs.mapM λ(r:ResultVar)=>(match r with| .tmp t=>pure (tmps.getD t undef)| .cell a t=>do loadVar t (<-asAddr (tmps.getD a undef)):Sem Value)).run P w= .ok xs w:=by
  intro rs;induction rs with
  |nil=>intro xs h;cases xs with
   |nil=>simp
   |cons=>exact h.elim
  |cons r rs ih=>intro xs h;cases xs with
   |nil=>exact h.elim
   |cons x xs=>
    have h1:=h.1;have h2:=ih xs h.2;simp only[List.mapM_cons,Sem.run_bind];cases r with
    |tmp t=>
     simp only[Iy]at h1;simp only[Sem.run_pure,Result.andThen_ok,h2,h1]
    |cell a t=>
     simp only[Iy]at h1;simp only[h1,Sem.run_pure,Result.andThen_ok,h2]
 have h2:(fn.results.mapM λ(r:ResultVar)=>(match r with| .tmp t=>pure (tmps.getD t undef)| .cell a t=>do loadVar t (<-asAddr (tmps.getD a undef)):Sem Value)).run P w= .ok xs.toArray w:=by
  rw[hr,List.mapM_toArray];have:=key rs xs hx;simp only[map_eq_pure_bind,Sem.run_bind,this,Result.andThen_ok,Sem.run_pure]
 unfold results;rw[Sem.run_bind];refine Eq.trans (congrArg (λr=>Result.andThen r _) h2) ?_;simp only[Result.andThen_ok,Sem.run_pure];congr 1;match xs with
 |[]=>simp[Kw]
 |[x]=>simp[Kw]
 |x::y::zs=>simp[Kw]
def Wh(G:C4)(st:St):ResultVar->Option EV
 | .tmp t=>Ck.get st.env t
 | .cell a t=>match Ck.get st.env a with
  |some (.sc (.vp g o))=>(Nq G.ty st t (.vp g o) st.next).map (·.ev)
  |_=>none
def NC(G:C4)(st:St):List ResultVar->Option (List EV)
 |[]=>some []
 |r::rs=>match Wh G st r,NC G st rs with
  |some e,some es=>some (e::es)
  |_,_=>none
def Wi:List ResultVar->List Operand
 |[]=>[]
 | .tmp t::rs=>.tmp t::Wi rs
 |_::rs=>Wi rs
def Ib:Nat->List PA->List (Nat×PA)
 |_,[]=>[]
 |i,p::ps=>(i,p)::Ib (i+1) ps
def Dx(T:Ar)(con:Con):Option (List SC×St):=
 match BD con.pats 1 with
 |(tc,fs,os,k1)=>match con.ref with
  |none=>match G6 (Ib 0 con.args) tc with
   |some (sl,[])=>some (Bd con.pats tc,{env:=sl,mem:=[],own:=os,rows:=[],pres:=[],rix:=[],facts:=fs,maxs:=[],next:=k1})
   |_=>none
  |some (t,l)=>match G6 (Ib 1 con.args) (tc.drop l.length)with
   |some (sl,[])=>some (Bd con.pats tc,{env:=(0,.sc (.vp 0 0))::sl,mem:=[(0,t,tc.take l.length)],own:=os,rows:=[],pres:=[],rix:=[],facts:=fs,maxs:=[],next:=k1})
   |_=>none
def HF(con:Con):List SC:=match con.ref with
 |none=>[]
 |some (_,l)=>(BD con.pats 1).1.take l.length
def VZ(T:Ar)(con:Con)(vec:List SC)(st:St)(evs:List EV)(post:Hh):Bool:=
 match Hl post.res evs,(match con.ref with
  |none=>match post.mem with
   |[]=>some []
   |_=>none
  |some (t,_)=>match Ck.get st.mem 0 with
   |some (t',ds)=>match Nat.beq t' t&&keepB post.mem (HF con)with
    |true=>Ee post.mem (HF con) ds
    |false=>none
   |none=>none:Option (List SC))with
 |some rc,some mc=>match Hz T st (BQ post.res) rc,Hz T st (CQ post.mem) mc with
  |some gs,some _=>L1 gs&&(Ix (vec++Bd (BQ post.res) rc++Bd (CQ post.mem) mc) post.facts st).isSome
  |_,_=>false
 |_,_=>false
def YX(G:C4)(con:Con)(vec:List SC)(rs:List ResultVar)(p:XK×St):Bool:=
 (match p.1 with
  | .rt=>true
  | .nrm=>true
  |_=>false)&&
 match GY (Wi rs) p.2 with
 |some l=>l.all λs=>match NC G s rs with
  |some evs=>con.posts.any (VZ G.T con vec s evs)
  |none=>false
 |none=>false
def Pd(G:C4)(loops:Nat->List BL)(con:Con)(body:Code)(rs:List ResultVar):Bool:=
 match Dx G.T con with
 |some (vec,st0)=>match J9 vec con.facts st0 with
  |some (es,st1)=>match L7 st1 es with
   |some l=>l.all λs=>match con.meas.ev vec s with
    |some (m0,s')=>match DK {G with lay:=con.layer,m0:=m0} (λr=>(loops r).map λh=>{h with gh:=vec}) body s' with
     |some outs=>outs.all (YX G con vec rs)
     |none=>false
    |none=>false
   |none=>false
  |none=>false
 |none=>false
section
variable{P:Program}{G:C4}{X:Cx}{T:Ar}{nt:Nat}{v v':Val}{st st':St}{a:Act}{w w':World}{k k':Nat}
theorem JK:∀{ps:List PA}{xs:List Value}{css:List (List Value)},PAVs ps xs css->css.flatten.length=(BQ ps).length/\xs.length=ps.length
 |[],[],[],_=>⟨rfl,rfl⟩
 |p::ps,x::xs,c::cs,h=>by
  obtain⟨h1,h2⟩:=JK h.2;have:c.length=p.pats.length:=by
   cases p with
   |one p=>have:=h.1;simp only[KJ]at this;subst this;rfl
   |agg l=>exact h.1.2
  refine⟨?_,by simp[h2]⟩;simp only[E3,Bh,h1,BQ,CA,this]
 |[],[],_::_,h=>h.elim
 |[],_::_,_,h=>h.elim
 |_::_,[],_,h=>h.elim
 |_::_,_::_,[],h=>h.elim
theorem Yh{ts:List Value}:∀{ps:List PA}{i:Nat},xs.length=ps.length->(∀j:Nat,∀x,xs[j]? =some x->ts[i+j]? =some x)->(Ib i ps).map (λp=>ts.toArray[p.1]?)=xs.map some/\(Ib i ps).map (·.2)=ps:=by
 intro ps;induction ps generalizing xs with
 |nil=>intro i hl _;cases xs with
  |nil=>exact⟨rfl,rfl⟩
  |cons=>simp at hl
 |cons p ps ih=>intro i hl h;cases xs with
  |nil=>simp at hl
  |cons x xs=>
   have h0:=h 0 x (by simp);obtain⟨h1,h2⟩:=ih (xs:=xs) (i:=i+1) (by simpa using hl) (λj y hj=>by have:=h (j+1) y (by simpa using hj);rwa[show i+(j+1)=i+1+j from by omega]at this);refine⟨?_,by simp only[Ib,CA,h2]⟩;simp only[Ib,CA,h1];simp at h0;simp[h0]
theorem Hp.rebase(hp:Hp T X v st w)(hM:v.M=X.v0.M)(hA:v.A=X.v0.A):Hp T ⟨v,X.w0,st.next,X.B⟩ v st w where
 fra:=⟨hp.fra.os,hp.fra.tape,hp.fra.output,hp.fra.size,λb h1 h2 h3=>hp.fra.blk b h1 h2 (by rw[<-hA];exact h3),λb o x h=>.inl h,λb x h=>.inl h⟩
 ext:=Ext.refl _ _
 kk:=Ay _
 hM:=hp.hM
 hA:=hp.hA
 mem:=hp.mem
 own:=hp.own
 rows:=hp.rows
 pres:=hp.pres
 rix:=hp.rix
 maxs:=hp.maxs
 facts:=hp.facts
 okf:=hp.okf
 memU:=hp.memU
 ownU:=hp.ownU
 moU:=hp.moU
theorem Abt(hty:CB P G.ty)(h:Den G.T X G.nt v st a w):∀{rs:List ResultVar}{evs:List EV},NC G st rs=some evs->∃xs:List Value,All2 (Iy P a.tmps w) rs xs/\All2 (DE G.T v) evs xs/\∀e∈evs,e.ok st.next=true
 |[],evs,he=>by simp only[NC]at he;cases he;exact⟨[],trivial,trivial,by simp⟩
 |r::rs,evs,he=>by
  simp only[NC]at he;split at he
  ·rename_i e es h1 h2;cases he;obtain⟨xs,b1,b2,b3⟩:=Abt hty h h2;have key:∃x,Iy P a.tmps w r x/\DE G.T v e x/\e.ok st.next=true:=by
    cases r with
    |tmp t=>
     simp only[Wh]at h1;obtain⟨x,a1,a2,a3⟩:=h.env _ _ h1;exact⟨x,by simp[Iy,HL,a1],a2,a3⟩
    |cell q t=>
     simp only[Wh]at h1;split at h1
     ·rename_i g o hg;simp only[BG]at h1;obtain⟨rr,h3,rfl⟩:=h1;obtain⟨y,a1,a2,a3⟩:=h.env _ _ hg;obtain⟨z,c1,c2⟩:=Aaj hty h.hp h3 a2;have hz:=c1 w (λ_ _=>rfl);obtain⟨b,hb,rfl⟩:=a2;refine⟨z,?_,?_,?_⟩
      ·simp only[Iy,HL,a1,KH,asAddr];simp only[Instr.loadAt,Instr.sureAddr,Sem.run_bind,Sem.run_pure,Result.andThen_ok]at hz;simp only[Sem.run_bind,Sem.run_pure,Result.andThen_ok];exact hz
      ·have:=c2.ev;exact this
      ·--the cells of a variable are within the bound
       unfold Nq at h3;split at h3
       ·rename_i i hi;split at h3
        ·rename_i l oo hca;unfold SV at hca;simp only at hca;split at hca<;>cases hca;rename_i p hp;have hm:=(h.hp.mem _ (Eh hp)).2;simp only[C6,Aq,Bg]at hm;split at h3
         ·split at h3<;>cases h3;show List.all _ _=true;simp only[Bg];exactλc hc=>hm.2 c (Fu (_root_.Fd hc))
         ·split at h3<;>cases h3;rename_i c hc;exact hm.2 c (BA hc)
        ·cases h3
       ·cases h3
     ·cases h1
   obtain⟨x,k1,k2,k3⟩:=key;refine⟨x::xs,⟨k1,b1⟩,⟨k2,b2⟩,?_⟩;intro e' he';rcases Ao.1 he' with rfl|he'
   ·exact k3
   ·exact b3 e' he'
  ·cases he
variable{A:AV}{M:AT}
theorem Aea{p:A7}{x:Value}{s:Sm}{o o':Option Nat}(hp:By p=false)(h:PV T w M A p x s o):PV T w M A p x s o':=by
 cases p<;>first|exact h|simp[By]at hp
theorem VF:∀{ps:List (Option A7)}{cs ds l:List SC}{old new:List Value}{os:List (Option Nat)},Ee ps cs ds=some l->keepB ps cs=true->All2 (DC T v) ds new->All2 (DC T v') cs old->Ext k v' v->cs.all (SC.ok k)=true->PVs T w v.M v.A (CQ ps) (Gh ps new) ((Bd (CQ ps) l).map (sem T v)) os->KF T w v.M v.A ps old new ((Bd (CQ ps) l).map (sem T v))
 |[],cs,ds,l,old,new,os,h,hkb,hn,ho,hx,hco,hp=>by
  cases cs<;>cases ds<;>simp only[Ee]at h<;>cases h;cases old<;>cases new<;>first|trivial|exact hn.elim|exact ho.elim
 |none::ps,cs,ds,l,old,new,os,h,hkb,hn,ho,hx,hco,hp=>by
  cases cs with
  |nil=>simp only[Ee]at h;cases h
  |cons c cs=>
   cases ds with
   |nil=>simp only[Ee]at h;cases h
   |cons d ds=>
    simp only[Ee]at h;split at h
    ·rename_i heq;have heq:=PI heq;subst heq;cases new with
     |nil=>exact hn.elim
     |cons y new=>
      cases old with
      |nil=>exact ho.elim
      |cons x old=>
       simp only[keepB,EJ,Aq]at hkb hco;exact⟨Alike.of hx hco.1 hkb.1 ho.1 hn.1,VF h hkb.2 hn.2 ho.2 hx hco.2 hp⟩
    ·cases h
 |some p::ps,cs,ds,l,old,new,os,h,hkb,hn,ho,hx,hco,hp=>by
  cases cs with
  |nil=>simp only[Ee]at h;cases h
  |cons c cs=>
   cases ds with
   |nil=>simp only[Ee]at h;cases h
   |cons d ds=>
    simp only[Ee]at h;simp only[BG]at h;obtain⟨l',h,rfl⟩:=h;cases new with
    |nil=>exact hn.elim
    |cons y new=>
     cases old with
     |nil=>exact ho.elim
     |cons x old=>
      cases os with
      |nil=>exact hp.elim
      |cons o os=>
       simp only[keepB,EJ,Aq,JF]at hkb hco;exact⟨Aea hkb.1 hp.1,hkb.1,VF h hkb.2 hn.2 ho.2 hx hco.2 hp.2⟩
end
section
variable{P:Program}{G:C4}{X:Cx}{T:Ar}{nt:Nat}{v v':Val}{st st':St}{a:Act}{w w':World}{k k':Nat}
theorem O_:∀{os:List (Nat×Nat×Nat×LE)}{bs:List (Option Nat)},OwnSyms T w v os bs->∀p∈os,∃b∈bs,v.β p.1=b/\∀b',b=some b'->∃cs,Blk w b' cs p.2.1/\cs.length=(v.κ p.1).1*(T p.2.2.1).cells.length/\p.2.2.2.ev v.ρ<=((v.κ p.1).1:Int)/\(v.κ p.1).1<=maxLen/\
 (∀o y,v.M b' o=some y->(o:Int)<p.2.2.2.ev v.ρ*((T p.2.2.1).cells.length:Int))/\v.A b'=none
 |[],bs,h,p,hp=>by simp at hp
 |q::os,bs,h,p,hp=>by
  cases bs with
  |nil=>exact h.elim
  |cons b bs=>
   rcases Ao.1 hp with rfl|hp
   ·exact⟨b,by simp,h.1⟩
   ·obtain⟨b',h1,h2⟩:=O_ h.2 p hp;exact⟨b',by simp[h1],h2⟩
theorem Xv:∀{os:List (Nat×Nat×Nat×LE)}{bs:List (Option Nat)},OwnSyms T w v os bs->D5 bs->∀p∈os,∀q∈os,∀b,v.β p.1=some b->v.β q.1=some b->p.1=q.1
 |[],bs,h,hs,p,hp,q,hq,b,h1,h2=>by simp at hp
 |r::os,bs,h,hs,p,hp,q,hq,b,h1,h2=>by
  cases bs with
  |nil=>exact h.elim
  |cons c bs=>
   have hs':=Mi.1 hs;have fromTail:∀q∈os,v.β q.1=some b->some b∈bs:=by
    intro q hq h2;obtain⟨b',h3,h4,_⟩:=O_ h.2 q hq;rw[h2]at h4;rw[h4];exact h3
   rcases Ao.1 hp with hp1|hp1<;>rcases Ao.1 hq with hq1|hq1
   ·rw[hp1,hq1]
   ·have hc:=h.1.1;rw[hp1]at h1;rw[h1]at hc;exact absurd V (hs'.1 _ (fromTail q hq1 h2) b hc.symm)
   ·have hc:=h.1.1;rw[hq1]at h2;rw[h2]at hc;exact absurd V (hs'.1 _ (fromTail p hp1 h1) b hc.symm)
   ·exact Xv h.2 hs'.2 p hp1 q hq1 b h1 h2
variable{os:List (Option Nat)}{css:List (List Value)}{rcs:List Value}{S:List Sm}{con:Con}{rb:Option Nat}{A:AV}{M:AT}
theorem Hp.start(E:KA T w M A con xs S rb rcs css os)
 {v0 v1:Val} (hM0:v0.M=M) (hA0:v0.A=A) (hb0:v0.β 0=rb) {tc:List SC}{fs:List LE}{qs:List (Nat×Nat×Nat×LE)}{k1:Nat} (hk:1<=k1) (H:Ou T w v0 v1 1 tc fs qs k1 (rcs++css.flatten) S (B8 con.pats os))
 {env:List (Nat×EV)}{mem:List (Nat×Nat×List SC)} (hmem:mem=[]\/∃b t,rb=some b/\RefB w M A t b rcs/\mem=[(0,t,tc.take rcs.length)]):
 Hp T ⟨v1,w,k1,Eo rb (B8 con.pats os)⟩ v1 {env:=env,mem:=mem,own:=qs,rows:=[],pres:=[],rix:=[],facts:=fs,maxs:=[],next:=k1} w:=by
 have eM:v1.M=M:=H.hM.trans hM0;have eA:v1.A=A:=H.hA.trans hA0;have eb:v1.β 0=rb:=(H.ext.β 0 (by omega)).trans hb0;have hsep:=Mi.1 E.sep;refine⟨⟨rfl,rfl,rfl,Ay _,λ_ _ _ _=>rfl,λ_ _ _ h=>.inl h,λ_ _ h=>.inl h⟩,Ext.refl _ _,Ay _,?_,?_,?_,?_,by simp,by simp,by simp,by simp,H.facts,H.okf,?_,?_,?_⟩
 ·intro b o x hx;rw[eM]at hx;rw[eA];exact E.wok.hM b o x hx
 ·intro b kk sz hx;rw[eA]at hx;exact E.wok.hA b kk sz hx
 ·intro p hp;rcases hmem with rfl|⟨b,t,h1,h2,rfl⟩
  ·simp at hp
  ·simp only[Ao,AB,or_false]at hp;subst hp;refine⟨⟨b,rcs,eb.trans h1,h2.blk,?_,h2.one,λo=>by rw[eM];exact h2.M o,by rw[eA];exact h2.A,.inl (.inl h1)⟩,?_⟩
   ·have:=H.cells.take rcs.length;rw[HP]at this;exact this
   ·simp only[C6,Aq,A_,Bg];have:=H.ok;simp only[Bg]at this;exact⟨by omega,λc hc=>this c (_root_.Fd hc)⟩
 ·intro p hp;refine⟨?_,(H.oko p hp).1⟩;obtain⟨b,h1,h2,h3⟩:=O_ H.own p hp;cases b with
  |none=>exact .inl h2
  |some b=>
   obtain⟨cs,g1,g2,g3,g4,g5,g6⟩:=h3 b rfl;exact .inr ⟨b,cs,h2,g1,g2,g3,g4,g5,g6,.inl (.inr h1)⟩
 ·intro p hp q hq b _ _;rcases hmem with rfl|⟨b,t,h1,h2,rfl⟩
  ·simp at hp
  ·simp only[Ao,AB,or_false]at hp hq;rw[hp,hq]
 ·exact Xv H.own hsep.2
 ·intro p hp q hq b h1 h2;rcases hmem with rfl|⟨b',t,g1,g2,rfl⟩
  ·simp at hp
  ·simp only[Ao,AB,or_false]at hp;subst hp;obtain⟨c,h3,h4,_⟩:=O_ H.own q hq;rw[h2]at h4;subst h4;simp only at h1;rw[eb]at h1;exact hsep.1 _ h3 b h1 V
theorem Asq{vec:List SC}{ts:List Tm}{st:St}(h:(Ix vec ts st).isSome=true):∃s,Ix vec ts st=some s:=Xu.1 h
theorem Asg{P:Program}{w0:World}(E:KA T w0 M A con xs S rb rcs css os)
 (hp:Hp T X v st w) (hXw:X.w0=w0) (hXM:X.v0.M=M) (hXA:X.v0.A=A) (hXB:X.B=Eo rb (B8 con.pats os)) (hb0:v.β 0=rb)
 {vec:List SC} (hvo:vec.all (SC.ok st.next)=true) (hvc:∀c∈vec,∃x,DC T v c x) (hvS:vec.map (sem T v)=S)
 {v1:Val}{k1:Nat} (hx1:Ext k1 v1 v) (hro:(HF con).all (SC.ok k1)=true) (hrc:All2 (DC T v1) (HF con) rcs)
 {evs:List EV}{ys:List Value} (hev:All2 (DE T v) evs ys) (heo:∀e∈evs,e.ok st.next=true) {post:Hh} (h:VZ T con vec st evs post=true):
 ∃M' A' Y Z rcs' css' ros,Fw T w0 M A con S rb rcs os post (Kw ys) w M' A' Y Z rcs' css' ros:=by
 unfold VZ at h;split at h;rotate_left
 ·cases h
 rename_i rc mc hrcc hmcc;split at h;rotate_left
 ·cases h
 rename_i gs gs' hgs hgs';simp only[Aq]at h;obtain⟨hnd,hpt⟩:=h;obtain⟨stF,hpt⟩:=Asq hpt;obtain⟨css',a1,a2,a3⟩:=KS (vs:=ys) hrcc hev heo;obtain⟨ros,b1,b2,b3,b4⟩:=Nu hp hgs a2;have hres:OE post.res (Kw ys) css':=by
  unfold OE;split
  ·rename_i p hpr;rw[hpr]at a1;match ys,css',a1 with
   |[y],[c],a1=>exact⟨c,rfl,a1.1⟩
   |[],[],a1=>exact a1.elim
   |[],_::_,a1=>exact a1.elim
   |y::_,[],a1=>exact a1.elim
   |y::y'::_,_::[],a1=>exact a1.2.elim
   |y::[],_::_::_,a1=>exact a1.2.elim
   |y::_::_,_::_::_,a1=>exact a1.2.elim
  ·rename_i hne;refine⟨ys,?_,a1⟩;match ys with
   |[]=>rfl
   |[y]=>
    exfalso;have hl:=(JK a1).2;simp only[Cg,DS]at hl;match hps:post.res with
    |[]=>rw[hps]at hl;simp at hl
    |[p]=>exact hne p hps
    |_::_::_=>rw[hps]at hl;simp at hl
   |_::_::_=>rfl
 have hmem:∃(rcs':List Value) (zs:List Value),All2 (DC T v) mc zs/\mc.all (SC.ok st.next)=true/\(match con.ref with
  |none=>(Bd (CQ post.mem) mc).map (sem T v)=[]/\rcs'=[]
  |some (t,_)=>∃b,rb=some b/\RefB w v.M v.A t b rcs'/\KF T w v.M v.A post.mem rcs rcs' ((Bd (CQ post.mem) mc).map (sem T v)))/\(∀c,rb=some c->∀q∈st.own,v.β q.1≠some c):=by
  have hEa:=E.args;split at hmcc
  ·rename_i href;rw[href]at hEa;try rw[href]
   split at hmcc
   ·rename_i hpm;cases hmcc;refine⟨[],[],trivial,rfl,⟨by rw[hpm];rfl,rfl⟩,λc hc=>?_⟩;rw[hEa.2.2]at hc;cases hc
   ·cases hmcc
  ·rename_i t l href;rw[href]at hEa;try rw[href]
   obtain⟨b,xs',e1,e2,e3,e4⟩:=hEa;split at hmcc;rotate_left
   ·cases hmcc
   rename_i t' ds hg;split at hmcc;rotate_left
   ·cases hmcc
   rename_i hbk;simp only[Aq]at hbk;have ht:=AH hbk.1;subst ht;have hmm:=Eh hg;obtain⟨⟨b',cs,f1,f2,f3,f4,f5,f6,f7⟩,f8⟩:=hp.mem _ hmm;simp only at f1 f2 f3;have hbb:b'=b:=by rw[hb0,e2]at f1;exact(Option.some.inj f1).symm
   subst hbb;obtain⟨g1,g3,g4,g5⟩:=Pc hmcc f3;obtain⟨mos,m1,_⟩:=Nu hp hgs' g1;refine⟨cs,_,g1,?_,⟨b',e2,⟨f2,f4,f5,f6⟩,VF hmcc hbk.2 f3 hrc hx1 hro m1⟩,?_⟩
   ·simp only[C6,Aq,Bg]at f8;simp only[Bg];exactλc hc=>f8.2 c (g4 c hc)
   ·intro c hc q hq;rw[e2]at hc;cases hc;exact hp.moU _ hmm q hq _ f1
 obtain⟨rcs',zs,c1,c2,c3,c4⟩:=hmem;have vok:∀(ps:List A7) (cs:List SC) (xs:List Value),cs.all (SC.ok st.next)=true->All2 (DC T v) cs xs->(Bd ps cs).all (SC.ok st.next)=true/\∀c∈Bd ps cs,∃x,DC T v c x:=by
  intro ps;induction ps with
  |nil=>intro cs xs _ _;exact⟨rfl,by simp[Bd]⟩
  |cons p ps ih=>
   intro cs xs ho hx;cases cs with
   |nil=>exact⟨rfl,by simp[Bd]⟩
   |cons c cs=>
    cases xs with
    |nil=>exact hx.elim
    |cons x xs=>
     simp only[EJ,Aq]at ho;obtain⟨i1,i2⟩:=ih cs xs ho.2 hx.2;have one:(DG p c).ok st.next=true/\∃x,DC T v (DG p c) x:=by
      unfold DG;split
      ·exact⟨rfl,.bool true,rfl⟩
      ·split
       ·exact⟨WK ho.1,x,QJ hx.1⟩
       ·exact⟨WQ ho.1,x,QR hx.1⟩
     refine⟨?_,?_⟩
     ·simp only[Bd,EJ,Aq];exact⟨one.1,i1⟩
     ·intro d hd;simp only[Bd]at hd;rcases Ao.1 hd with rfl|hd
      ·exact one.2
      ·exact i2 d hd
 have va:=vok (BQ post.res) rc _ a3 a2;have vb:=vok (CQ post.mem) mc _ c2 c1;obtain⟨vF,gF,hF⟩:=Q3 hp (by simp only[HN,Aq];exact⟨⟨hvo,va.1⟩,vb.1⟩) (by
  intro c hc;rcases B3.1 hc with hc|hc
  ·rcases B3.1 hc with hc|hc
   ·exact hvc c hc
   ·exact va.2 c hc
  ·exact vb.2 c hc) hpt
 rw[IE,IE,hvS]at hF;refine⟨v.M,v.A,_,_,rcs',css',ros,⟨?_,?_,⟨hp.hM,hp.hA⟩,?_,hres,b1,c3,?_,?_,hF⟩⟩
 ·have:=hp.ext.M;rw[hXM]at this;exact this
 ·have:=hp.ext.A;rw[hXA]at this;exact this
 ·have f:=hp.fra;refine⟨by rw[f.os,hXw],by rw[f.tape,hXw],by rw[f.output,hXw],by rw[<-hXw];exact f.size,?_,?_,?_⟩
  ·intro b h1 h2 h3;have:=f.blk b (by rw[hXw];exact h1) (by rw[hXB];exact h2) (by rw[hXA];exact h3);rw[this,hXw]
  ·intro b o x hx;have:=f.M b o x hx;rwa[hXM,hXB,hXw]at this
  ·intro b x hx;have:=f.A b x hx;rwa[hXA,hXw]at this
 ·refine List.Pairwise.cons ?_ (b3 hnd);intro b hb c hc hbc;subst hbc;obtain⟨g,h1,h2,q,h3⟩:=b2 c hb;exact c4 c hc _ h3 h2
 ·intro b hb;obtain⟨g,h1,h2,q,h3⟩:=b2 b hb;obtain⟨h0|⟨b',cs,e1,_,_,_,_,_,_,e8⟩,_⟩:=hp.own _ h3
  ·simp only at h0;rw[h2]at h0;cases h0
  ·simp only at e1;rw[h2]at e1;cases e1;rcases e8 with e8|e8
   ·rw[hXB]at e8;rcases e8 with e8|e8
    ·exact absurd h2 (c4 b e8 _ h3)
    ·exact .inl (.inr e8)
   ·right;rw[<-hXw];exact e8
def Nz(con:Con):Nat:=(match con.ref with
 |none=>0
 |some _=>1)+con.args.length
end
section
variable{P:Program}{G:C4}{v v':Val}{st st':St}{a:Act}{w w':World}{k k':Nat}
theorem Ado{T:Ar}:∀{ps:List A7}{cs:List SC}{xs:List Value},cs.all (SC.ok k)=true->All2 (DC T v) cs xs->(Bd ps cs).all (SC.ok k)=true/\∀c∈Bd ps cs,∃x,DC T v c x
 |[],cs,xs,_,_=>by cases cs<;>exact⟨rfl,by simp[Bd]⟩
 |p::ps,[],xs,_,_=>⟨rfl,by simp[Bd]⟩
 |p::ps,c::cs,[],ho,hx=>hx.elim
 |p::ps,c::cs,x::xs,ho,hx=>by
  simp only[EJ,Aq]at ho;obtain⟨i1,i2⟩:=Ado (ps:=ps) ho.2 hx.2;have one:(DG p c).ok k=true/\∃x,DC T v (DG p c) x:=by
   unfold DG;split
   ·exact⟨rfl,.bool true,rfl⟩
   ·split
    ·exact⟨WK ho.1,x,QJ hx.1⟩
    ·exact⟨WQ ho.1,x,QR hx.1⟩
  refine⟨?_,?_⟩
  ·simp only[Bd,EJ,Aq];exact⟨one.1,i1⟩
  ·intro d hd;simp only[Bd]at hd;rcases Ao.1 hd with rfl|hd
   ·exact one.2
   ·exact i2 d hd
theorem Am3(T:Ar)(con:Con):Dx T con=match con.ref with
 |none=>match G6 (Ib 0 con.args) (BD con.pats 1).1 with
  |some (sl,[])=>some (Bd con.pats (BD con.pats 1).1,{env:=sl,mem:=[],own:=(BD con.pats 1).2.2.1,rows:=[],pres:=[],rix:=[],facts:=(BD con.pats 1).2.1,maxs:=[],next:=(BD con.pats 1).2.2.2})
  |_=>none
 |some (t,l)=>match G6 (Ib 1 con.args) ((BD con.pats 1).1.drop l.length)with
  |some (sl,[])=>some (Bd con.pats (BD con.pats 1).1,{env:=(0,.sc (.vp 0 0))::sl,mem:=[(0,t,(BD con.pats 1).1.take l.length)],own:=(BD con.pats 1).2.2.1,rows:=[],pres:=[],rix:=[],facts:=(BD con.pats 1).2.1,maxs:=[],next:=(BD con.pats 1).2.2.2})
  |_=>none:=by
 unfold Dx;rcases BD con.pats 1 with⟨tc,fs,os,k1⟩;rfl
theorem getElem?_args(xs:List Value)(n:Nat)(i:Nat)(x:Value)(h:xs[i]? =some x):(xs++List.replicate n undef).toArray[i]? =some x:=by
 have hi:i<xs.length:=(C3.1 h).1;simp[GD hi,h]
variable{os:List (Option Nat)}{css:List (List Value)}{rcs:List Value}{rb:Option Nat}{S:List Sm}{A:AV}{M:AT}{con:Con}
theorem Ahi(hty:CB P G.ty)(hmix:P.follows .mixedOrders=true){loops:Nat->List BL}{c:Code}{f:FuncId}(hf:P.funcs[f]? =some fn)(hb:fn.body=some c)(hn:fn.ntmps=G.nt)(hr:fn.results=rs.toArray)
 (hl:Nat.ble (Nz con) G.nt=true) (hchk:Pd G loops con c rs=true)  (E:KA G.T w M A con xs S rb rcs css os)
 (hC:∀f con',con'∈G.con f->Hd P G.T f con' (Below con' con.layer (con.meas.den S))) (hrun:∀f con',con'∈G.con f->GB P f) (hext:ExtOK P G.ext):
 Calls P f xs.toArray w (Go.Sx.End (λr w'=>∃post∈con.posts,∃M' A' Y Z rcs' css' ros,Fw G.T w M A con S rb rcs os post r w' M' A' Y Z rcs' css' ros) λ_ _=>False):=by
 refine calls_of_wp hf hb ?_;have hnle:=CK hl
 --the frame
 have hxl:xs.length=Nz con:=by
  have:=E.args;unfold Nz;split at this
  ·rename_i h;rw[h];simp[(JK this.1).2]
  ·rename_i t l h;obtain⟨b,xs',e1,_,_,e4⟩:=this;rw[h,e1];simp only[Cg,(JK e4).2];omega
 have htm:xs.toArray++Array.replicate (fn.ntmps-xs.toArray.size) undef=(xs++List.replicate (fn.ntmps-xs.length) undef).toArray:=DB.mp (by simp);rw[htm];have hsz:(xs++List.replicate (fn.ntmps-xs.length) undef).toArray.size=G.nt:=by
  simp only[GF,Bh,List.length_replicate];omega
 --the symbols of what is handed over
 let v0:Val:={ρ:=λ_=>0,δ:=λ_=>⟨0,[],0,0⟩,β:=λi=>match i with|0=>rb|_=>none,κ:=λ_=>(0,0),M:=M,A:=A};obtain⟨v1,H⟩:=Nf (k:=1) (v:=v0) E.vals;have hk1:1<=(BD con.pats 1).2.2.2:=Lm _ _;have hvec:=Ng (T:=G.T) (v:=v1) con.pats 1;rw[H.sem]at hvec;have hvo:=Ado (ps:=con.pats) H.ok H.cells;unfold Pd at hchk;split at hchk;rotate_left
 ·cases hchk
 rename_i vec st0 hentry
 --the state at the beginning
 have start:∃(X:Cx),X.w0=w/\X.v0.M=M/\X.v0.A=A/\X.B=Eo rb (B8 con.pats os)/\Den G.T X G.nt v1 st0 ⟨(xs++List.replicate (fn.ntmps-xs.length) undef).toArray,[]⟩ w/\vec=Bd con.pats (BD con.pats 1).1/\st0.next=(BD con.pats 1).2.2.2/\
  (HF con).all (SC.ok (BD con.pats 1).2.2.2)=true/\All2 (DC G.T v1) (HF con) rcs/\v1.β 0=rb:=by
  have eb:v1.β 0=rb:=H.ext.β 0 (by omega);refine⟨⟨v1,w,(BD con.pats 1).2.2.2,Eo rb (B8 con.pats os)⟩,rfl,H.hM,H.hA,rfl,?_⟩;have hEa:=E.args;rw[Am3]at hentry;split at hentry
  ·rename_i href;rw[href]at hEa;obtain⟨e1,e2,e3⟩:=hEa;split at hentry<;>cases hentry;rename_i sl hsl;subst e2;have hsn:=Yh (xs:=xs) (ts:=xs++List.replicate (fn.ntmps-xs.length) undef) (ps:=con.args) (i:=0) (JK e1).2 (λj x hj=>by
    rw[BO,GD (C3.1 hj).1];exact hj)
   have hc:=H.cells;simp only[Dh]at hc;obtain⟨s1,s2,s3⟩:=NT (a:=⟨(xs++List.replicate (fn.ntmps-xs.length) undef).toArray,[]⟩) (xs:=xs) (ys:=[]) (css:=css) hsl (by rw[hsn.2];exact e1) (by rw[FW];exact hc) H.ok hsn.1;refine⟨⟨hsz,rfl,s2,Hp.start E V V V hk1 H (.inl V)⟩,rfl,rfl,?_,?_,eb⟩
   ·unfold HF;rw[href];rfl
   ·unfold HF;rw[href];trivial
  ·rename_i t l href;rw[href]at hEa;obtain⟨b,xs',e1,e2,e3,e4⟩:=hEa;split at hentry<;>cases hentry;rename_i sl hsl;have hrl:rcs.length=l.length:=by
    have h1:=(Xw E.vals).1;have h2:=(JK e4).1;simp only[Con.pats,href,Bh]at h1;omega
   subst e1;have hsn:=Yh (xs:=xs') (ts:=.pointer (some ⟨b,0,none⟩)::(xs'++List.replicate (fn.ntmps-(xs'.length+1)) undef)) (ps:=con.args) (i:=1) (JK e4).2 (λj x hj=>by
    rw[show 1+j=j+1 from by omega,Mf,GD (C3.1 hj).1];exact hj)
   have hcd:All2 (DC G.T v1) ((BD con.pats 1).1.drop l.length) (css.flatten++[]):=by
    have:=H.cells.drop l.length;rw[List.drop_left' hrl]at this;rw[FW];exact this
   have hod:((BD con.pats 1).1.drop l.length).all (SC.ok (BD con.pats 1).2.2.2)=true:=by
    have:=H.ok;simp only[Bg]at this⊢;exactλc hc=>this c (Fu hc)
   obtain⟨s1,s2,s3⟩:=NT (a:=⟨(.pointer (some ⟨b,0,none⟩)::(xs'++List.replicate (fn.ntmps-(xs'.length+1)) undef)).toArray,[]⟩) (xs:=xs') (ys:=[]) (css:=css) hsl (by rw[hsn.2];exact e4) hcd hod hsn.1;refine⟨⟨hsz,rfl,?_,Hp.start E V V V hk1 H (.inr ⟨b,t,e2,e3,by rw[hrl]⟩)⟩,rfl,rfl,?_,?_,eb⟩
   ·intro i e hi;simp only[Ck.get_nil,Ck.get_cons]at hi;split at hi
    ·rename_i hi0;cases hi;have:=AH hi0;subst this;exact⟨.pointer (some ⟨b,0,none⟩),rfl,⟨b,eb.trans e2,rfl⟩,by simp only[EV.ok,SC.ok,A_];omega⟩
    ·obtain⟨x,h1,h2,h3⟩:=s2 i e hi;exact⟨x,by simpa using h1,h2,h3⟩
   ·unfold HF;rw[href];have:=H.ok;simp only[Bg]at this⊢;exactλc hc=>this c (_root_.Fd hc)
   ·unfold HF;rw[href];have:=H.cells.take l.length;rw[List.take_left' hrl]at this;exact this
 obtain⟨X,x1,x2,x3,x4,D0,rfl,hnx,r1,r2,r3⟩:=start;split at hchk;rotate_left
 ·cases hchk
 rename_i es st1 htk;rw[<-hnx]at hvo;obtain⟨v2,g2,f2,_⟩:=QH D0.hp hvo.1 hvo.2 htk (by rw[hvec];exact E.facts);have hcx:∀{u u':Val}{j:Nat}{vec:List SC},Ext j u u'->vec.all (SC.ok j)=true->(∀c∈vec,∃x,DC G.T u c x)->(∀c∈vec,∃x,DC G.T u' c x)/\vec.map (sem G.T u')=vec.map (sem G.T u):=by
  intro u u' j vec hx ho hc;simp only[Bg]at ho;exact⟨λc hm=>by obtain⟨x,h⟩:=hc c hm;exact⟨x,DC.ext hx (ho c hm) h⟩,O5 λc hm=>Ky hx (ho c hm)⟩
 have k2:=hcx g2.ext hvo.1 hvo.2;split at hchk;rotate_left
 ·cases hchk
 rename_i l has;obtain⟨s,h1,h2,h3,h4,h5,h6⟩:=Wd g2.hp has f2;simp only[Bg]at hchk;have hchk:=hchk s h1;split at hchk;rotate_left
 ·cases hchk
 rename_i m0 s' hme;have hvo2:(Bd con.pats (BD con.pats 1).1).all (SC.ok s.next)=true:=SCs.ok_mono (by rw[h3];exact g2.next) hvo.1;obtain⟨v3,g3,hmo,hmv⟩:=Hj con.meas h2 hvo2 k2.1 hme;have k3:=hcx g3.ext hvo2 k2.1;split at hchk;rotate_left
 ·cases hchk
 rename_i outs hex;have hB:=g3.hp.rebase (by rw[g3.hM,g2.hM];exact(by rw[x2];exact H.hM)) (by rw[g3.hA,g2.hA];exact(by rw[x3];exact H.hA));have D1:Den G.T ⟨v3,X.w0,s'.next,X.B⟩ G.nt v3 s' ⟨(xs++List.replicate (fn.ntmps-xs.length) undef).toArray,[]⟩ w:=by
  refine⟨hsz,rfl,?_,hB⟩;intro i e hi;rw[g3.env,h4,g2.env]at hi;obtain⟨x,y1,y2,y3⟩:=D0.env i e hi;have:=EV.ok_mono g2.next y3;refine⟨x,y1,DE.ext g3.ext (by rw[h3];exact this) (DE.ext g2.ext y3 y2),EV.ok_mono g3.next (by rw[h3];exact this)⟩
 have hmS:m0.ev v3.ρ=con.meas.den S:=by rw[hmv,k2.2,hvec]
 have hwp:=Ik (G:={G with lay:=con.layer,m0:=m0}) (X:=⟨v3,X.w0,s'.next,X.B⟩) (P:=P) hty hmix (M0:=con.meas.den S) ⟨hC,hrun,hext⟩ hmo hmS (λr h hh=>by
  obtain⟨h',_,rfl⟩:=BY.1 hh;exact⟨SCs.ok_mono g3.next hvo2,k3.1⟩) c D1 hex
 refine wp_mono hwp ?_;rintro e a' w' ⟨p,q1,q2,v',q3,q4,q5⟩;have hE:=(Bg.1 hchk) p q1;unfold YX at hE;simp only[Aq]at hE;obtain⟨hE1,hE2⟩:=hE;split at hE2;rotate_left
 ·cases hE2
 rename_i l' hsp;simp only[Bg]at hE2;obtain⟨s4,t1,t2,t3,t4,_⟩:=J6 q5 hsp;have hE2:=hE2 s4 t1;split at hE2;rotate_left
 ·cases hE2
 rename_i evs hre;obtain⟨ys,u1,u2,u3⟩:=Abt hty t2 hre;simp only[Md]at hE2;obtain⟨post,hpm,hpo⟩:=hE2;have e13:Ext (BD con.pats 1).2.2.2 v1 v':=by
  rw[<-hnx];exact(g2.ext.trans (g3.ext.trans q3 g3.next) (by rw[h3];exact g2.next))
 have hvoF:(Bd con.pats (BD con.pats 1).1).all (SC.ok s4.next)=true:=by
  refine SCs.ok_mono ?_ hvo2;rw[t3];exact AX g3.next q4
 have kF:=hcx (q3.mono (Ay _)) (SCs.ok_mono g3.next hvo2) k3.1;have fin:=Asg (P:=P) E t2.hp x1 (by show v3.M=M;rw[g3.hM,g2.hM];exact H.hM) (by show v3.A=A;rw[g3.hA,g2.hA];exact H.hA) x4 (by rw[e13.β 0 (by omega)];exact r3)
  hvoF kF.1 (by rw[kF.2,k3.2,k2.2,hvec]) e13 r1 r2 u2 u3 hpo
 obtain⟨M',A',Y,Z,rcs',css',ros,hfin⟩:=fin;have hres:=Abv (P:=P) (w:=w') hr u1;have hend:Go.Sx.End (λr w'=>∃post∈con.posts,∃M' A' Y Z rcs' css' ros,Fw G.T w M A con S rb rcs os post r w' M' A' Y Z rcs' css' ros) (λ_ _=>False) (.returned (Kw ys)) w':=
  ⟨post,hpm,M',A',Y,Z,rcs',css',ros,hfin⟩
 obtain⟨pk,ps⟩:=p;cases e with
 |normal=>exact⟨q5.defers,_,hres,hend⟩
 |ret=>exact⟨q5.defers,_,hres,hend⟩
 |exit j=>cases pk<;>first|(cases hE1;done)|(exact False.elim q2)
 |panic ch=>cases pk<;>exact q2.elim
 |outgrown=>cases pk<;>exact q2.elim
 |_=>cases pk<;>exact q2.elim
end
def FZ(P:Program)(T:Ar)(cons:Nat->List Con)(f:FuncId)(con:Con):Prop:=
 ∀(w:World) (M:AT) (A:AV) (xs:List Value) (S:List Sm) (rb:Option Nat) (rcs:List Value) (css:List (List Value)) (os:List (Option Nat)),KA T w M A con xs S rb rcs css os->
  (∀f' con',con'∈cons f'->Hd P T f' con' (Below con' con.layer (con.meas.den S)))->
  Calls P f xs.toArray w (Go.Sx.End (λr w'=>∃post∈con.posts,∃M' A' Y Z rcs' css' ros,Fw T w M A con S rb rcs os post r w' M' A' Y Z rcs' css' ros) λ_ _=>False)
theorem Au3{T:Ar}{cons:Nat->List Con}(h:∀f con,con∈cons f->FZ P T cons f con):∀f con,con∈cons f->Hd P T f con λ_=>True:=by
 have key:∀lay f con,con∈cons f->con.layer=lay->Hd P T f con λ_=>True:=by
  intro lay;induction lay using Nat.strongRecOn with
  |_ lay ih=>
   have inner:∀n f con,con∈cons f->con.layer=lay->Hd P T f con λm=>m.toNat=n:=by
    intro n;induction n using Nat.strongRecOn with
    |_ n ih2=>
     intro f con hm hlay w M A xs S rb rcs css os E hn;refine h f con hm w M A xs S rb rcs css os E ?_;intro f' con' hm' w' M' A' xs' S' rb' rcs' css' os' E' hb;rcases hb with hb|⟨hb,h1,h2⟩
     ·exact ih con'.layer (by omega) f' con' hm' V w' M' A' xs' S' rb' rcs' css' os' E' trivial
     ·exact ih2 (con'.meas.den S').toNat (by omega) f' con' hm' (by omega) w' M' A' xs' S' rb' rcs' css' os' E' V
   intro f con hm hlay w M A xs S rb rcs css os E _;exact inner _ f con hm hlay w M A xs S rb rcs css os E V
 intro f con hm;exact key con.layer f con hm V
variable{con:Con}
theorem Aus{G:C4}(hty:CB P G.ty)(hmix:P.follows .mixedOrders=true)(hrun:∀f con',con'∈G.con f->GB P f)(hext:ExtOK P G.ext){f:FuncId}{c:Code}{loops:Nat->List BL}
 (hf:P.funcs[f]? =some fn) (hb:fn.body=some c) (hr:fn.results=rs.toArray) (hl:Nat.ble (Nz con) fn.ntmps=true) (hchk:Pd {G with nt:=fn.ntmps} loops con c rs=true):FZ P G.T G.con f con:=
 λ_ _ _ _ _ _ _ _ _ E hC=>Ahi (G:={G with nt:=fn.ntmps}) hty hmix hf hb rfl hr hl hchk E hC hrun hext
end Go.Ck