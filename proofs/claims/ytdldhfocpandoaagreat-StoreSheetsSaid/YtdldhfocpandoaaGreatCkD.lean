import Derived.Test.YtdldhfocpandoaaGreatCkC
import Derived.Test.YtdldhfocpandoaaGreatCkB
import Derived.Laws.MakeOwn
import Derived.Laws.BytesArg
noncomputable section
set_option maxHeartbeats 8000000
set_option maxRecDepth 8000
namespace Go.Ck
open Go.Sx
def IY{α:Type}(l:List (Nat×α)):List Nat->List (Nat×α)
 |[]=>l
 |g::gs=>IY (FA l g) gs
theorem Ig{α:Type}:∀{gs:List Nat}{l:List (Nat×α)}{p:Nat×α},p∈IY l gs->p∈l/\p.1∉gs
 |[],l,p,h=>⟨h,by simp⟩
 |g::gs,l,p,h=>by
  obtain⟨h1,h2⟩:=Ig (gs:=gs) h;obtain⟨h3,h4⟩:=DJ h1;exact⟨h3,by simp[h4,h2]⟩
def La{α:Type}(l:List (Nat×α)):Option Nat->List (Nat×α)
 |none=>l
 |some g=>FA l g
theorem MG{α:Type}{l:List (Nat×α)}{og:Option Nat}{p:Nat×α}(h:p∈La l og):p∈l/\og≠some p.1:=by
 cases og with
 |none=>exact⟨h,by simp⟩
 |some g=>obtain⟨h1,h2⟩:=DJ h;exact⟨h1,λe=>h2 (by cases e;rfl)⟩
section
variable{P:Program}{T:Ar}{X:Cx}{nt:Nat}{v v':Val}{st st':St}{a:Act}{w w':World}{k k':Nat}
theorem Hp.call(hp:Hp T X v st w){v2:Val}{B:Nat->Prop}{og:Option Nat}{gs:List Nat}(hB:∀b,B b->(∃g t l,og=some g/\(g,t,l)∈st.mem/\v.β g=some b)\/∃g q,g∈gs/\(g,q)∈st.own/\v.β g=some b)
 (hfra:FraM B w v.M v.A w' v2.M v2.A) (hwok:WOK w' v2.M v2.A) (hx:Ext st.next v v2) {nx:Nat} (hn:st.next<=nx) {mem2:List (Nat×Nat×List SC)}{rb:Option Nat}
 (hmem2:∀p∈mem2,og=some p.1/\(∃t l,(p.1,t,l)∈st.mem)/\∃b cs,rb=some b/\v.β p.1=some b/\RefB w' v2.M v2.A p.2.1 b cs/\All2 (DC T v2) p.2.2 cs/\p.2.2.all (SC.ok nx)=true) (hmu:∀p∈mem2,∀q∈mem2,p.1=q.1)
 {os2:List (Nat×Nat×Nat×LE)}{bs2:List (Option Nat)} (hos:OwnSyms T w' v2 os2 bs2) (hoo:∀p∈os2,DA nx p=true/\st.next<=p.1) (hsep:D5 (rb::bs2))
 (hob:∀b,some b∈bs2->(∃g q,g∈gs/\(g,q)∈st.own/\v.β g=some b)\/w.heap.size<=b) {fs:List LE} (hf:Holds v2.ρ fs) (hfo:∀f∈fs,f.ok nx=true):
 Hp T X v2 {st with mem:=mem2++La st.mem og,own:=os2++IY st.own gs,facts:=fs++st.facts,maxs:=[]++st.maxs,next:=nx} w':=by
 --what is not Eo
 have hBX:∀b,B b->X.B b\/X.w0.heap.size<=b:=by
  intro b hb;rcases hB b hb with⟨g,t,l,_,h2,h3⟩|⟨g,q,_,h2,h3⟩
  ·obtain⟨⟨b',cs,e1,_,_,_,_,_,e7⟩,_⟩:=hp.mem _ h2;simp only at e1;rw[h3]at e1;cases e1;exact e7
  ·obtain⟨h0|⟨b',cs,e1,_,_,_,_,_,_,e8⟩,_⟩:=hp.own _ h2
   ·simp only at h0;rw[h3]at h0;cases h0
   ·simp only at e1;rw[h3]at e1;cases e1;exact e8
 have hmemB:∀p∈La st.mem og,∀b,v.β p.1=some b->¬B b:=by
  intro p hpm b hb hBb;obtain⟨h1,h2⟩:=MG hpm;rcases hB b hBb with⟨g,t,l,h3,h4,h5⟩|⟨g,q,_,h4,h5⟩
  ·have:=hp.memU p h1 _ h4 b hb h5;simp only at this;subst this;exact h2 h3
  ·exact hp.moU p h1 _ h4 b hb h5
 have hownB:∀p∈IY st.own gs,∀b,v.β p.1=some b->¬B b:=by
  intro p hpm b hb hBb;obtain⟨h1,h2⟩:=Ig hpm;rcases hB b hBb with⟨g,t,l,_,h4,h5⟩|⟨g,q,h3,h4,h5⟩
  ·exact hp.moU _ h4 p h1 b h5 hb
  ·have:=hp.ownU p h1 _ h4 b hb h5;simp only at this;subst this;exact h2 h3
 have hM0:∀b,b<w.heap.size->¬B b->∀o x,v2.M b o=some x->v.M b o=some x:=by
  intro b hb hnb o x h;rcases hfra.M b o x h with h1|h1|h1
  ·exact h1
  ·exact absurd h1 hnb
  ·omega
 have hA0:∀b,b<w.heap.size->v.A b=none->v2.A b=none:=by
  intro b hb h;cases hq:v2.A b with
  |none=>rfl
  |some x=>
   rcases hfra.A b x hq with h1|h1
   ·rw[h]at h1;cases h1
   ·omega
 have hosb:∀p∈os2,∃b∈bs2,v2.β p.1=b:=by
  clear hoo;intro p hpm;have:∀{os:List (Nat×Nat×Nat×LE)}{bs:List (Option Nat)},OwnSyms T w' v2 os bs->∀p∈os,∃b∈bs,v2.β p.1=b:=by
   intro os;induction os with
   |nil=>intro bs _ p hp;simp at hp
   |cons q os ih=>
    intro bs h p hp;cases bs with
    |nil=>exact h.elim
    |cons b bs=>
     rcases Ao.1 hp with rfl|hp
     ·exact⟨b,by simp,h.1.1⟩
     ·obtain⟨b',h1,h2⟩:=ih h.2 p hp;exact⟨b',by simp[h1],h2⟩
  exact this hos p hpm
 have hosU:∀p∈os2,∀q∈os2,∀b,v2.β p.1=some b->v2.β q.1=some b->p.1=q.1:=by
  have:∀{os:List (Nat×Nat×Nat×LE)}{bs:List (Option Nat)},OwnSyms T w' v2 os bs->D5 bs->∀p∈os,∀q∈os,∀b,v2.β p.1=some b->v2.β q.1=some b->p.1=q.1:=by
   intro os;induction os with
   |nil=>intro bs _ _ p hp;simp at hp
   |cons r os ih=>
    intro bs h hs p hp q hq b h1 h2;cases bs with
    |nil=>exact h.elim
    |cons c bs=>
     have hs':=Mi.1 hs;have fromTail:∀q∈os,v2.β q.1=some b->some b∈bs:=by
      intro q hq h2;have:∀{os:List (Nat×Nat×Nat×LE)}{bs:List (Option Nat)},OwnSyms T w' v2 os bs->∀p∈os,v2.β p.1=some b->some b∈bs:=by
       intro os;induction os with
       |nil=>intro bs _ p hp;simp at hp
       |cons q os ih=>
        intro bs h p hp hb;cases bs with
        |nil=>exact h.elim
        |cons c bs=>
         rcases Ao.1 hp with rfl|hp
         ·have:=h.1.1;rw[hb]at this;simp[<-this]
         ·simp[ih h.2 p hp hb]
      exact this h.2 q hq h2
     rcases Ao.1 hp with hp1|hp1<;>rcases Ao.1 hq with hq1|hq1
     ·rw[hp1,hq1]
     ·have hc:=h.1.1;rw[hp1]at h1;rw[h1]at hc;exact absurd V (hs'.1 _ (fromTail q hq1 h2) b hc.symm)
     ·have hc:=h.1.1;rw[hq1]at h2;rw[h2]at hc;exact absurd V (hs'.1 _ (fromTail p hp1 h1) b hc.symm)
     ·exact ih h.2 hs'.2 p hp1 q hq1 b h1 h2
  exact this hos (Mi.1 hsep).2
 have okm:∀p∈st.mem,p.1<st.next:=λp hpm=>by
  have:=(hp.mem p hpm).2;simp only[C6,Aq,A_]at this;exact this.1
 have oko:∀p∈st.own,p.1<st.next:=λp hpm=>by
  have:=(hp.own p hpm).2;simp only[DA,Aq,A_]at this;exact this.1
 --own blocks that come back are Eo or new
 have hosT:∀p∈os2,∀b,v2.β p.1=some b->(∃g q,g∈gs/\(g,q)∈st.own/\v.β g=some b)\/w.heap.size<=b:=by
  intro p hpm b hb;obtain⟨c,h1,h2⟩:=hosb p hpm;rw[hb]at h2;subst h2;exact hob b h1
 have mem2β:∀p∈mem2,v2.β p.1=v.β p.1:=λp hpm=>by
  obtain⟨_,⟨t,l,h1⟩,_⟩:=hmem2 p hpm;exact hx.β _ (okm (p.1,t,l) h1)
 refine hp.step hx hn hf hfo (ms:=[]) (by simp) ?_ ?_ ?_ ?_ ?_ ?_ ?_ ?_
 ·refine hp.fra.step hfra.os hfra.tape hfra.output hfra.size (λb hb=>?_) (λb o x h=>?_) (λb x h=>?_)
  ·by_cases hBb:B b
   ·rcases hBX b hBb with h|h
    ·exact .inr (.inl h)
    ·exact .inr (.inr (.inl h))
   ·cases hq:v.A b with
    |none=>exact .inl (hfra.blk b hb hBb hq)
    |some x=>exact .inr (.inr (.inr (by simp)))
  ·rcases hfra.M b o x h with h1|h1|h1
   ·exact .inl h1
   ·exact .inr (hBX b h1)
   ·exact .inr (.inr (AX hp.fra.size h1))
  ·rcases hfra.A b x h with h1|h1
   ·exact .inl h1
   ·exact .inr (AX hp.fra.size h1)
 ·exact hwok.hM
 ·exact hwok.hA
 ·intro p hpm;rcases B3.1 hpm with hpm|hpm
  ·obtain⟨h1,⟨t,l,h2⟩,b,cs,h3,h4,h5,h6,h7⟩:=hmem2 p hpm;obtain⟨⟨b',cs',e1,_,_,_,_,_,e7⟩,_⟩:=hp.mem _ h2;simp only at e1;rw[h4]at e1;cases e1;refine⟨⟨b,cs,by rw[mem2β p hpm];exact h4,h5.blk,h6,h5.one,h5.M,h5.A,e7⟩,?_⟩;simp only[C6,Aq,A_];exact⟨BB (okm (p.1,t,l) h2) hn,h7⟩
  ·obtain⟨h1,h2⟩:=MG hpm;refine⟨(hp.mem p h1).1.keep hx (hp.mem p h1).2 λb hb=>?_,N5 hn (hp.mem p h1).2⟩;have hlt:=hp.mem_lt h1 hb;have hnb:=hmemB p hpm b hb;obtain⟨b',cs',e1,_,_,_,e5,e6,_⟩:=(hp.mem p h1).1;rw[hb]at e1;cases e1;refine⟨hfra.blk b hlt hnb e6,λo=>?_,hA0 b hlt e6⟩;cases hq:v2.M b o with
   |none=>rfl
   |some x=>have:=hM0 b hlt hnb o x hq;rw[e5]at this;cases this
 ·intro p hpm;rcases B3.1 hpm with hpm|hpm
  ·have hpk:=(hoo p hpm).1;have:∀{os:List (Nat×Nat×Nat×LE)}{bs:List (Option Nat)},OwnSyms T w' v2 os bs->∀p∈os,∃b,v2.β p.1=b/\∀b',b=some b'->∃cs,Blk w' b' cs p.2.1/\cs.length=(v2.κ p.1).1*(T p.2.2.1).cells.length/\p.2.2.2.ev v2.ρ<=((v2.κ p.1).1:Int)/\(v2.κ p.1).1<=maxLen/\
    (∀o y,v2.M b' o=some y->(o:Int)<p.2.2.2.ev v2.ρ*((T p.2.2.1).cells.length:Int))/\v2.A b'=none:=by
    intro os;induction os with
    |nil=>intro bs _ p hp;simp at hp
    |cons q os ih=>
     intro bs h p hp;cases bs with
     |nil=>exact h.elim
     |cons b bs=>
      rcases Ao.1 hp with rfl|hp
      ·exact⟨b,h.1⟩
      ·exact ih h.2 p hp
   obtain⟨b,h1,h2⟩:=this hos p hpm;refine⟨?_,hpk⟩;cases hb:b with
   |none=>subst hb;exact .inl h1
   |some b'=>
    subst hb;obtain⟨cs,e1,e2,e3,e4,e5,e6⟩:=h2 b' rfl;refine .inr ⟨b',cs,h1,e1,e2,e3,e4,e5,e6,?_⟩;rcases hosT p hpm b' h1 with⟨g,q,f1,f2,f3⟩|h
    ·obtain⟨h0|⟨b2,cs2,g1,_,_,_,_,_,_,g8⟩,_⟩:=hp.own _ f2
     ·simp only at h0;rw[f3]at h0;cases h0
     ·simp only at g1;rw[f3]at g1;cases g1;exact g8
    ·exact .inr (AX hp.fra.size h)
  ·obtain⟨h1,h2⟩:=Ig hpm;refine⟨(hp.own p h1).1.keep hx (hp.own p h1).2 λb hb=>?_,Ks hn (hp.own p h1).2⟩;have hlt:=hp.own_lt h1 hb;have hnb:=hownB p hpm b hb;have hAb:v.A b=none:=by
    rcases(hp.own p h1).1 with h0|⟨b2,cs2,g1,_,_,_,_,_,g7,_⟩
    ·rw[hb]at h0;cases h0
    ·rw[hb]at g1;cases g1;exact g7
   exact⟨hfra.blk b hlt hnb hAb,λo x h=>hM0 b hlt hnb o x h,hA0 b hlt hAb⟩
 ·intro p hpm q hqm b h1 h2;have key:∀{r:Nat×Nat×List SC},r∈mem2++La st.mem og->v2.β r.1=some b->(∃t l,(r.1,t,l)∈st.mem)/\v.β r.1=some b:=by
   intro r hr hb;rcases B3.1 hr with hr|hr
   ·rw[mem2β r hr]at hb;exact⟨(hmem2 r hr).2.1,hb⟩
   ·have h1:=(MG hr).1;rw[hx.β _ (okm _ h1)]at hb;exact⟨⟨r.2.1,r.2.2,h1⟩,hb⟩
  obtain⟨⟨t,l,k1⟩,k2⟩:=key hpm h1;obtain⟨⟨t',l',k3⟩,k4⟩:=key hqm h2;exact hp.memU (p.1,t,l) k1 (q.1,t',l') k3 b k2 k4
 ·intro p hpm q hqm b h1 h2;have old:∀{r:Nat×Nat×Nat×LE},r∈IY st.own gs->v2.β r.1=some b->v.β r.1=some b:=by
   intro r hr hb;rw[hx.β _ (oko _ (Ig hr).1)]at hb;exact hb
  have clash:∀{r s:Nat×Nat×Nat×LE},r∈os2->s∈IY st.own gs->v2.β r.1=some b->v2.β s.1=some b->False:=by
   intro r s hr hs k1 k2;have k3:=old hs k2;rcases hosT r hr b k1 with⟨g,q,f1,f2,f3⟩|h
   ·obtain⟨e1,e2⟩:=Ig hs;have:=hp.ownU _ f2 s e1 b f3 k3;simp only at this;subst this;exact e2 f1
   ·have:=hp.own_lt (Ig hs).1 k3;omega
  rcases B3.1 hpm with hpm|hpm<;>rcases B3.1 hqm with hqm|hqm
  ·exact hosU p hpm q hqm b h1 h2
  ·exact(clash hpm hqm h1 h2).elim
  ·exact(clash hqm hpm h2 h1).elim
  ·exact hp.ownU p (Ig hpm).1 q (Ig hqm).1 b (old hpm h1) (old hqm h2)
 ·intro p hpm q hqm b h1 h2;rcases B3.1 hqm with hqm|hqm
  ·--a new own one
   rcases B3.1 hpm with hpm|hpm
   ·obtain⟨_,_,b',cs,h3,h4,_⟩:=hmem2 p hpm;rw[mem2β p hpm,h4]at h1;cases h1;obtain⟨c,e1,e2⟩:=hosb q hqm;rw[h2]at e2;subst e2;exact(Mi.1 hsep).1 _ e1 b h3 V
   ·have hm:=(MG hpm).1;rw[hx.β _ (okm _ hm)]at h1;rcases hosT q hqm b h2 with⟨g,r,f1,f2,f3⟩|h
    ·exact hp.moU p hm _ f2 b h1 f3
    ·have:=hp.mem_lt hm h1;omega
  ·have hq:=(Ig hqm).1;rw[hx.β _ (oko _ hq)]at h2;rcases B3.1 hpm with hpm|hpm
   ·obtain⟨_,⟨t,l,h5⟩,_⟩:=hmem2 p hpm;rw[mem2β p hpm]at h1;exact hp.moU _ h5 q hq b h1 h2
   ·have hm:=(MG hpm).1;rw[hx.β _ (okm _ hm)]at h1;exact hp.moU p hm q hq b h1 h2
end
def CQ:List (Option A7)->List A7
 |[]=>[]
 |none::l=>CQ l
 |some p::l=>p::CQ l
def D_:List (Option A7)->List SC->List SC->Option (List SC)
 |[],[],[]=>some []
 |none::ps,c::cs,ds=>(D_ ps cs ds).map (c::·)
 |some _::ps,_::cs,d::ds=>(D_ ps cs ds).map (d::·)
 |_,_,_=>none
def EH:List PA->List SC->Option (List (Bool×List SC))
 |[],[]=>some []
 | .one _::ps,c::cs=>(EH ps cs).map ((false,[c])::·)
 | .agg l::ps,cs=>match Nat.ble l.length cs.length with
  |true=>(EH ps (cs.drop l.length)).map ((true,cs.take l.length)::·)
  |false=>none
 |_,_=>none
def Le(ps:List PA)(cs:List SC):Option EV:=
 match EH ps cs with
 |some [(false,[c])]=>some (.sc c)
 |some [(true,l)]=>some (.agg l)
 |some l=>some (.tup l)
 |none=>none
def Hl:List PA->List EV->Option (List SC)
 |[],[]=>some []
 | .one _::ps,.sc c::es=>(Hl ps es).map (c::·)
 | .agg l::ps,.agg cs::es=>match Nat.beq cs.length l.length with
  |true=>(Hl ps es).map (cs++·)
  |false=>none
 |_,_=>none
def VK(og:Option (Nat×Nat×List SC))(pm:List (Option A7))(mc:List SC):Option (List (Nat×Nat×List SC)):=
 match og with
 |none=>match pm with
  |[]=>some []
  |_=>none
 |some (g,t,cs)=>match keepB pm cs with
  |true=>(D_ pm cs mc).map λl=>[(g,t,l)]
  |false=>none
def SS(T:Ar)(st:St)(og:Option (Nat×Nat×List SC))(gs:List Nat)(vec:List SC)(post:Hh):Option (List (EV×St)):=
 match BD (BQ post.res) st.next with
 |(rc,fs1,os1,k1)=>
  match BD (CQ post.mem) k1 with
  |(mc,fs2,_,k2)=>
   match(CQ post.mem).all (λp=>!By p),Le post.res rc,VK og post.mem mc with
   |true,some ev,some mem2=>
    match J9 (vec++Bd (BQ post.res) rc++Bd (CQ post.mem) mc) post.facts
     {st with mem:=mem2++La st.mem (og.map (·.1)),own:=os1++IY st.own gs,facts:=(fs1++fs2)++st.facts,maxs:=[]++st.maxs,next:=k2}with
    |some (es,st2)=>(L7 st2 es).map λl=>l.map λs=>(ev,s)
    |none=>none
   |_,_,_=>none
def D8{α β:Type}(f:α->Option (List β)):List α->Option (List β)
 |[]=>some []
 |a::l=>match f a,D8 f l with
  |some x,some y=>some (x++y)
  |_,_=>none
def Below(con:Con)(lay:Nat)(m0:Int)(m:Int):Prop:=con.layer<lay\/(con.layer=lay/\0<=m/\m<m0)
section
variable{P:Program}{T:Ar}{X:Cx}{nt:Nat}{v v':Val}{st st':St}{a:Act}{w w':World}{k k':Nat}
theorem Ef{α β:Type}{f:α->Option (List β)}:∀{l:List α}{r:List β},D8 f l=some r->∀x∈l,∃y,f x=some y/\∀b∈y,b∈r
 |a::l,r,h,x,hx=>by
  simp only[D8]at h;split at h
  ·rename_i y z h1 h2;cases h;rcases Ao.1 hx with rfl|hx
   ·exact⟨y,h1,λb hb=>by simp[hb]⟩
   ·obtain⟨y',h3,h4⟩:=Ef h2 x hx;exact⟨y',h3,λb hb=>by simp[h4 b hb]⟩
  ·cases h
theorem KS{vs:List Value}:∀{ps:List PA}{es:List EV}{cs:List SC}{xs:List Value},Hl ps es=some cs->All2 (DE T v) es xs->(∀e∈es,e.ok k=true)->
 ∃css,PAVs ps xs css/\All2 (DC T v) cs css.flatten/\cs.all (SC.ok k)=true
 |[],es,cs,xs,h,hx,_=>by
  cases es<;>simp only[Hl]at h<;>cases h;cases xs
  ·exact⟨[],trivial,trivial,rfl⟩
  ·exact hx.elim
 |p::ps,es,cs,xs,h,hx,ho=>by
  cases es with
  |nil=>cases p<;>simp only[Hl]at h<;>cases h
  |cons e es=>
   cases xs with
   |nil=>exact hx.elim
   |cons x xs=>
    have ho1:=ho e (by simp);have ho2:=λe' he=>ho e' (Ft _ he);cases p with
    |one p=>
     cases e<;>simp only[Hl]at h
     ·simp only[BG]at h;obtain⟨c',h1,rfl⟩:=h;obtain⟨css,a1,a2,a3⟩:=KS (vs:=vs) h1 hx.2 ho2;refine⟨[x]::css,⟨rfl,a1⟩,⟨hx.1,a2⟩,?_⟩;rename_i c;have:(c.ok k&&c'.all (SC.ok k))=true:=by rw[Aq];exact⟨ho1,a3⟩
      exact this
     ·cases h
     ·cases h
    |agg l=>
     cases e<;>simp only[Hl]at h
     ·cases h
     ·rename_i cc;split at h
      ·rename_i hb;simp only[BG]at h;obtain⟨c',h1,rfl⟩:=h;obtain⟨css,a1,a2,a3⟩:=KS (vs:=vs) h1 hx.2 ho2;obtain⟨cv,rfl,h3⟩:=hx.1;refine⟨cv::css,⟨⟨rfl,by rw[<-h3.length,AH hb]⟩,a1⟩,?_,?_⟩
       ·exact h3.append a2
       ·simp only[HN,Aq];exact⟨ho1,a3⟩
      ·cases h
     ·cases h
theorem PM{cs:List SC}{ys:List Value}:∀{xs:List Value},All2 (DC T v) cs (xs++ys)->All2 (DC T v) (cs.take xs.length) xs/\All2 (DC T v) (cs.drop xs.length) ys
 |[],h=>⟨by simp[All2],by simpa using h⟩
 |x::xs,h=>by
  cases cs with
  |nil=>exact h.elim
  |cons c cs=>
   have:=PM (xs:=xs) h.2;exact⟨⟨h.1,this.1⟩,this.2⟩
theorem Q6:∀{ps:List PA}{cs:List SC}{xs:List Value}{css:List (List Value)}{l:List (Bool×List SC)},EH ps cs=some l->PAVs ps xs css->All2 (DC T v) cs css.flatten->All2 (DP T v) l xs
 |[],cs,xs,css,l,h,hp,hc=>by
  cases cs<;>simp only[EH]at h<;>cases h;cases xs<;>cases css<;>first|trivial|exact hp.elim
 |p::ps,cs,xs,css,l,h,hp,hc=>by
  cases xs with
  |nil=>cases css<;>exact hp.elim
  |cons x xs=>
   cases css with
   |nil=>exact hp.elim
   |cons c css=>
    obtain⟨h1,h2⟩:=hp;cases p with
    |one p=>
     simp only[KJ]at h1;subst h1;cases cs with
     |nil=>simp only[EH]at h;cases h
     |cons d cs=>
      simp only[EH,BG]at h;obtain⟨l',h3,rfl⟩:=h;exact⟨⟨d,rfl,hc.1⟩,Q6 h3 h2 hc.2⟩
    |agg q=>
     obtain⟨rfl,h4⟩:=h1;simp only[EH]at h;split at h
     ·simp only[BG]at h;obtain⟨l',h3,rfl⟩:=h;have:=PM (xs:=c) (ys:=css.flatten) hc;rw[h4]at this;exact⟨⟨c,rfl,this.1⟩,Q6 h3 h2 this.2⟩
     ·cases h
variable{ev:EV}{cs:List SC}
theorem Anf{ps:List PA}{r:Value}{css:List (List Value)}(h:Le ps cs=some ev)(hr:OE ps r css)(hc:All2 (DC T v) cs css.flatten):DE T v ev r:=by
 have one:∀{p:PA}{c:List Value}{l:List (Bool×List SC)},EH [p] cs=some l->KJ p r c->css=[c]->All2 (DP T v) l [r]:=by
  intro p c l h1 h2 h3;subst h3;exact Q6 (css:=[c]) h1 (show PAVs [p] [r] [c]from⟨h2,trivial⟩) hc
 unfold Le at h;match ps,hr with
 |[p],hr=>
  obtain⟨c,h1,h2⟩:=hr;split at h
  ·rename_i d hl;cases h;obtain⟨c',e1,e2⟩:=(one hl h2 h1).1;cases e1;exact e2
  ·rename_i l hl;cases h;exact(one hl h2 h1).1
  ·rename_i l n1 n2 hl;have:=one hl h2 h1;cases l with
   |nil=>exact this.elim
   |cons q l=>
    cases l with
    |nil=>
     exfalso;obtain⟨b,q⟩:=q;cases b with
     |true=>exact n2 q V
     |false=>
      obtain⟨c',e1,_⟩:=this.1;simp only at e1;subst e1;exact n1 c' V
    |cons=>exact this.2.elim
  ·cases h
 |[],hr=>
  obtain⟨xs,rfl,h1⟩:=hr;cases xs with
  |nil=>
   cases css with
   |nil=>
    cases cs with
    |nil=>simp only[EH]at h;cases h;exact⟨[],rfl,trivial⟩
    |cons=>exact hc.elim
   |cons=>exact h1.elim
  |cons=>cases css<;>exact h1.elim
 |p::q::ps,hr=>
  obtain⟨xs,rfl,h1⟩:=hr;have key:∀{l},EH (p::q::ps) cs=some l->All2 (DP T v) l xs:=λhl=>Q6 hl h1 hc;have len2:∀{l},EH (p::q::ps) cs=some l->2<=l.length:=by
   intro l hl;have h3:=(key hl).length;cases xs with
   |nil=>cases css<;>exact h1.elim
   |cons x xs=>
    cases xs with
    |nil=>
     cases css with
     |nil=>exact h1.elim
     |cons c css=>cases css<;>exact h1.2.elim
    |cons y ys=>simp at h3;omega
  split at h
  ·rename_i hl;have:=len2 hl;simp at this
  ·rename_i hl;have:=len2 hl;simp at this
  ·rename_i l _ _ hl;cases h;exact⟨xs,rfl,key hl⟩
  ·cases h
def Gh:List (Option A7)->List Value->List Value
 |none::ps,_::xs=>Gh ps xs
 |some _::ps,x::xs=>x::Gh ps xs
 |_,_=>[]
theorem VJ:∀{ps:List (Option A7)}{cs mc l:List SC}{old new:List Value}{Z:List Sm},D_ ps cs mc=some l->keepB ps cs=true->All2 (DC T v) cs old->KF T w v.M v.A ps old new Z->
 PVs T w v.M v.A (CQ ps) (Gh ps new) Z (Z.map λ_=>none)/\(∀v',All2 (DC T v') mc (Gh ps new)->(∀c x,c∈cs->DC T v c x->DC T v' c x)->All2 (DC T v') l new)/\(∀c∈l,c∈cs\/c∈mc)
 |[],cs,mc,l,old,new,Z,h,hkb,ho,hm=>by
  cases cs<;>cases mc<;>simp only[D_]at h<;>cases h;cases old<;>cases new<;>cases Z<;>first|exact⟨trivial,λ_ _ _=>trivial,by simp⟩|exact hm.elim
 |none::ps,cs,mc,l,old,new,Z,h,hkb,ho,hm=>by
  cases cs with
  |nil=>simp only[D_]at h;cases h
  |cons c cs=>
   simp only[D_,BG]at h;obtain⟨l',h1,rfl⟩:=h;cases old with
   |nil=>exact ho.elim
   |cons x old=>
    cases new with
    |nil=>exact hm.elim
    |cons y new=>
     obtain⟨hal,hm⟩:=hm;simp only[keepB,Aq]at hkb;obtain⟨a1,a2,a3⟩:=VJ h1 hkb.2 ho.2 hm;refine⟨a1,λv' hv hk=>⟨hal.DC hkb.1 (hk c _ (by simp) ho.1),a2 v' hv λc' x hc=>hk c' x (by simp[hc])⟩,?_⟩;intro c' hc;rcases Ao.1 hc with rfl|hc
     ·simp
     ·rcases a3 c' hc with h|h
      ·simp[h]
      ·exact .inr h
 |some p::ps,cs,mc,l,old,new,Z,h,hkb,ho,hm=>by
  cases cs with
  |nil=>simp only[D_]at h;cases h
  |cons c cs=>
   cases mc with
   |nil=>simp only[D_]at h;cases h
   |cons d mc=>
    simp only[D_,BG]at h;obtain⟨l',h1,rfl⟩:=h;cases old with
    |nil=>exact ho.elim
    |cons x old=>
     cases new with
     |nil=>exact hm.elim
     |cons y new=>
      cases Z with
      |nil=>exact hm.elim
      |cons s Z=>
       obtain⟨b1,b2,hm⟩:=hm;simp only[keepB]at hkb;obtain⟨a1,a2,a3⟩:=VJ h1 (by simp only[Aq]at hkb;exact hkb.2) ho.2 hm;refine⟨⟨b1,a1⟩,λv' hv hk=>?_,?_⟩
       ·exact⟨hv.1,a2 v' hv.2 λc' x hc=>hk c' x (by simp[hc])⟩
       ·intro c' hc;rcases Ao.1 hc with rfl|hc
        ·simp
        ·rcases a3 c' hc with h|h
         ·simp[h]
         ·simp[h]
end
section
variable{P:Program}{T:Ar}{X:Cx}{nt:Nat}{v v':Val}{st st':St}{a:Act}{w w':World}{k k':Nat}
theorem NB:∀{ps:List PA}{cs:List SC}{l:List (Bool×List SC)},EH ps cs=some l->cs.all (SC.ok k)=true->l.all (λp=>p.2.all (SC.ok k))=true
 |[],cs,l,h,_=>by cases cs<;>simp only[EH]at h<;>cases h;rfl
 | .one p::ps,cs,l,h,ho=>by
  cases cs with
  |nil=>simp only[EH]at h;cases h
  |cons c cs=>
   simp only[EH,BG]at h;obtain⟨l',h1,rfl⟩:=h;simp only[EJ,Aq]at ho;have:=NB h1 ho.2;simp only[EJ,List.all_nil,Om,Aq];exact⟨ho.1,this⟩
 | .agg q::ps,cs,l,h,ho=>by
  simp only[EH]at h;split at h
  ·simp only[BG]at h;obtain⟨l',h1,rfl⟩:=h;simp only[Bg]at ho;have:=NB h1 (by simp only[Bg];exactλc hc=>ho c (Fu hc));simp only[EJ,Aq];exact⟨by simp only[Bg];exactλc hc=>ho c (_root_.Fd hc),this⟩
  ·cases h
variable{ev:EV}{cs:List SC}
theorem Ang{ps:List PA}(h:Le ps cs=some ev)(ho:cs.all (SC.ok k)=true):ev.ok k=true:=by
 unfold Le at h;split at h
 ·rename_i c hl;cases h;have:=NB hl ho;simpa[EV.ok]using this
 ·rename_i l hl;cases h;have:=NB hl ho;simpa[EV.ok]using this
 ·rename_i l _ _ hl;cases h;exact NB hl ho
 ·cases h
structure Rl(T:Ar)(v:Val)(st:St)(con:Con)(og:Option (Nat×Nat×List SC))(rb:Option Nat)(rcs:List Value):Prop where
 og:match og with
  |none=>rb=none/\rcs=[]/\con.ref=none
  |some (g,t,cs)=>(g,t,cs)∈st.mem/\(∃b,rb=some b/\v.β g=some b)/\All2 (DC T v) cs rcs/\∃l,con.ref=some (t,l)
theorem J4{k:Nat}(h:Ext k v v')(ho:cs.all (SC.ok k)=true):cs.map (sem T v')=cs.map (sem T v):=by
 simp only[Bg]at ho;exact O5 λc hc=>Ky h (ho c hc)
def Cells(T:Ar)(v:Val)(cs:List SC):Prop:=∀c∈cs,∃x,DC T v c x
theorem Cells.of{xs:List Value}:All2 (DC T v) cs xs->Cells T v cs:=by
 intro h c hc;obtain⟨i,hi⟩:=Mh hc;obtain⟨y,_,h2⟩:=h.get hi;exact⟨y,h2⟩
theorem Cells.ext(h:Ext k v v')(ho:cs.all (SC.ok k)=true)(hc:Cells T v cs):Cells T v' cs:=λc hm=>by
 obtain⟨x,hx⟩:=hc c hm;simp only[Bg]at ho;exact⟨x,DC.ext h (ho c hm) hx⟩
theorem LR:∀{ps:List A7}{cs:List SC},Cells T v cs->Cells T v (Bd ps cs)
 |[],cs,_=>by simp[Bd,Cells]
 |p::ps,[],_=>by simp[Bd,Cells]
 |p::ps,c::cs,h=>by
  intro d hd;simp only[Bd,Ao]at hd;rcases hd with rfl|hd
  ·unfold DG;split
   ·exact⟨.bool true,rfl⟩
   ·obtain⟨x,hx⟩:=h c (by simp);split
    ·exact⟨x,QJ hx⟩
    ·exact⟨x,QR hx⟩
  ·exact LR (λc hc=>h c (by simp[hc])) d hd
theorem K5:∀{ps:List A7}{cs:List SC},cs.all (SC.ok k)=true->(Bd ps cs).all (SC.ok k)=true
 |[],cs,_=>by simp[Bd]
 |p::ps,[],_=>by simp[Bd]
 |p::ps,c::cs,h=>by
  simp only[EJ,Aq]at h;simp only[Bd,EJ,Aq];refine⟨?_,K5 h.2⟩;unfold DG;split
  ·rfl
  ·split
   ·exact WK h.1
   ·exact WQ h.1
theorem Aqo(p:A7)(k:Nat):sem T v (DG p (AY p k).1)=sem T v (AY p k).1:=by
 cases p<;>simp[DG,Ge,Gm,I3,Fq,AY,sem]
theorem Ng:∀(ps:List A7) (k:Nat),(Bd ps (BD ps k).1).map (sem T v)=(BD ps k).1.map (sem T v)
 |[],k=>rfl
 |p::ps,k=>by
  have h1:=Aqo (T:=T) (v:=v) p k;have h2:=Ng ps (AY p k).2.2.2;have e:(BD (p::ps) k).1=(AY p k).1::(BD ps (AY p k).2.2.2).1:=rfl;rw[e];simp only[Bd,CA,h1,h2]
theorem Ag7(hp:Hp T X v st w){con:Con}{og:Option (Nat×Nat×List SC)}{gs:List Nat}{vec:List SC}{post:Hh}{outs:List (EV×St)}(h:SS T st og gs vec post=some outs){S:List Sm}{rb:Option Nat}{rcs:List Value}{os:List (Option Nat)}
 (hog:Rl T v st con og rb rcs) (hgs:Rk v st gs (B8 con.pats os)) (hvo:vec.all (SC.ok st.next)=true) (hvc:Cells T v vec) (hS:vec.map (sem T v)=S)
 {r:Value}{M':AT}{A':AV}{Y Z:List Sm}{rcs':List Value}{css:List (List Value)}{ros:List (Option Nat)} (hpo:Fw T w v.M v.A con S rb rcs os post r w' M' A' Y Z rcs' css ros):
 ∃p∈outs,∃v',Ext st.next v v'/\st.next<=p.2.next/\p.2.env=st.env/\Hp T X v' p.2 w'/\DE T v' p.1 r/\p.1.ok p.2.next=true:=by
 unfold SS at h;let v1:Val:={v with M:=M',A:=A'};have x1:Ext st.next v v1:=⟨λ_ _=>rfl,λ_ _=>rfl,λ_ _=>rfl,λ_ _=>rfl,hpo.mle,hpo.ale⟩;obtain⟨va,Ha⟩:=Nf (k:=st.next) (v:=v1) hpo.vals;have hna:=Lm (BQ post.res) st.next;have heva:=Ng (T:=T) (v:=va) (BQ post.res) st.next;generalize hra:BD (BQ post.res) st.next=qa at h Ha hna heva;obtain⟨rc,fs1,os1,k1⟩:=qa;simp only at h Ha hna heva;have xa:Ext st.next v va:=x1.trans Ha.ext (Ay _);have hMa:va.M=M':=Ha.hM;have hAa:va.A=A':=Ha.hA
 --the end,whatever is handed on
 have fin:∀(vb:Val) (mc:List SC) (fs2:List LE) (k2:Nat) (mem2:List (Nat×Nat×List SC)),k1<=k2->Ext k1 va vb->vb.M=M'->vb.A=A'->Holds vb.ρ fs2->(∀f∈fs2,f.ok k2=true)->mc.all (SC.ok k2)=true->Cells T vb mc->
  (Bd (CQ post.mem) mc).map (sem T vb)=Z->
  (∀p∈mem2,(og.map (·.1))=some p.1/\(∃t l,(p.1,t,l)∈st.mem)/\∃b cs,rb=some b/\v.β p.1=some b/\RefB w' vb.M vb.A p.2.1 b cs/\All2 (DC T vb) p.2.2 cs/\p.2.2.all (SC.ok k2)=true)->(∀p∈mem2,∀q∈mem2,p.1=q.1)->
  (∀ev,Le post.res rc=some ev->(match J9 (vec++Bd (BQ post.res) rc++Bd (CQ post.mem) mc) post.facts
   {st with mem:=mem2++La st.mem (og.map (·.1)),own:=os1++IY st.own gs,facts:=(fs1++fs2)++st.facts,maxs:=[]++st.maxs,next:=k2}with
   |some (es,st2)=>(L7 st2 es).map λl=>l.map λs=>(ev,s)
   |none=>none)=some outs->
  ∃p∈outs,∃v',Ext st.next v v'/\st.next<=p.2.next/\p.2.env=st.env/\Hp T X v' p.2 w'/\DE T v' p.1 r/\p.1.ok p.2.next=true):=by
  intro vb mc fs2 k2 mem2 hk xb hMb hAb hf2 hfo2 hmo hmc hZ hm2 hmu ev hev hout;have xv:Ext st.next v vb:=xa.trans xb hna;have hB:∀b,Eo rb (B8 con.pats os) b->(∃g t l,(og.map (·.1))=some g/\(g,t,l)∈st.mem/\v.β g=some b)\/∃g q,g∈gs/\(g,q)∈st.own/\v.β g=some b:=by
   intro b hb;rcases hb with hb|hb
   ·left;cases og with
    |none=>obtain⟨h1,_⟩:=hog.og;rw[h1]at hb;cases hb
    |some q=>
     obtain⟨g,t,cs⟩:=q;obtain⟨h1,⟨b',h2,h3⟩,_⟩:=hog.og;rw[h2]at hb;cases hb;exact⟨g,t,cs,rfl,h1,h3⟩
   ·right;obtain⟨g,h1,h2,q,h3⟩:=hgs b hb;exact⟨g,q,h1,h3,h2⟩
  have hfra:FraM (Eo rb (B8 con.pats os)) w v.M v.A w' vb.M vb.A:=by rw[hMb,hAb];exact hpo.fra
  have hwok:WOK w' vb.M vb.A:=by rw[hMb,hAb];exact hpo.wok
  have hos:OwnSyms T w' vb os1 (B8 (BQ post.res) ros):=OwnSyms.ext xb (hMb.trans hMa.symm) (hAb.trans hAa.symm) (λp hp=>(Ha.oko p hp).1) Ha.own;have H:=hp.call hB hfra hwok xv (nx:=k2) (by omega) hm2 hmu hos (λp hp=>⟨Ks hk (Ha.oko p hp).1,(Ha.oko p hp).2⟩) hpo.sep (λb hb=>by
   rcases hpo.own b hb with h1|h1
   ·rcases h1 with h1|h1
    ·cases h1
    ·obtain⟨g,h2,h3,q,h4⟩:=hgs b h1;exact .inl ⟨g,q,h2,h4,h3⟩
   ·exact .inr h1) (fs:=fs1++fs2) (λf hf=>by
    rcases B3.1 hf with hf|hf
    ·exact Holds.ext xb Ha.okf Ha.facts f hf
    ·exact hf2 f hf) (λf hf=>by
    rcases B3.1 hf with hf|hf
    ·exact LE.ok_mono hk (Ha.okf f hf)
    ·exact hfo2 f hf)
  have hrco:rc.all (SC.ok k2)=true:=SCs.ok_mono hk Ha.ok;have hrcc:All2 (DC T vb) rc css.flatten:=DCs.ext xb Ha.ok Ha.cells;split at hout
  ·rename_i es st2 htk;simp only[BG]at hout;obtain⟨l,hl,rfl⟩:=hout;have hvo2:(vec++Bd (BQ post.res) rc++Bd (CQ post.mem) mc).all (SC.ok k2)=true:=by
    simp only[HN,Aq];exact⟨⟨SCs.ok_mono (by omega) hvo,K5 hrco⟩,K5 hmo⟩
   have hvc2:Cells T vb (vec++Bd (BQ post.res) rc++Bd (CQ post.mem) mc):=by
    intro c hc;simp only[B3]at hc;rcases hc with(hc|hc)|hc
    ·exact Cells.ext xv hvo hvc c hc
    ·exact LR (Cells.of hrcc) c hc
    ·exact LR hmc c hc
   have hsem:(vec++Bd (BQ post.res) rc++Bd (CQ post.mem) mc).map (sem T vb)=S++Y++Z:=by
    have e1:(Bd (BQ post.res) rc).map (sem T vb)=Y:=by
     rw[J4 xb (K5 Ha.ok),heva];exact Ha.sem
    rw[IE,IE,J4 xv hvo,hS,e1,hZ]
   obtain⟨vc,g,h1,h2⟩:=QH H hvo2 hvc2 htk (λt ht=>by rw[hsem];exact hpo.facts t ht);obtain⟨st3,h3,h4,h5,h6,_⟩:=Wd g.hp hl h1;have hevd:DE T vb ev r:=Anf hev hpo.res hrcc;have hevo:=Ang hev hrco;refine⟨(ev,st3),BY.2 ⟨st3,h3,rfl⟩,vc,xv.trans g.ext (by show st.next<=k2;omega),?_,?_,h4,DE.ext g.ext hevo hevd,?_⟩
   ·show st.next<=st3.next;have:=g.next;rw[h5];exact AX (show st.next<=k2 by omega) this
   ·show st3.env=st.env;rw[h6,g.env]
   ·show ev.ok st3.next=true;rw[h5];exact EV.ok_mono g.next hevo
  ·cases hout
 --the variable
 cases og with
 |none=>
  obtain⟨h1,h2,h3⟩:=hog.og;have hm:=hpo.mem;rw[h3]at hm;simp only at hm;obtain⟨rfl,rfl⟩:=hm;split at h
  ·rename_i ev mem2 _ hev hmm;unfold VK at hmm;simp only at hmm;split at hmm
   ·rename_i hpm;cases hmm;rw[hpm]at h;refine fin va [] [] k1 [] (Ay _) (Ext.refl _ _) hMa hAa (by simp[Holds]) (by simp) V (by simp[Cells]) (by rw[hpm];rfl) (by simp) (by simp) ev hev ?_;rw[hpm];exact h
   ·cases hmm
  ·cases h
 |some q=>
  obtain⟨g,t,cs⟩:=q;obtain⟨h1,⟨b,h2,h3⟩,h4,⟨lp,h5⟩⟩:=hog.og;have hm:=hpo.mem;rw[h5]at hm;obtain⟨b',e1,e2,e3⟩:=hm;rw[h2]at e1;cases e1;have hcso:=(hp.mem _ h1).2;simp only[C6,Aq,A_]at hcso;have hmn:∀{mc l},D_ post.mem cs mc=some l->keepB post.mem cs=true->PVs T w' va.M va.A (CQ post.mem) (Gh post.mem rcs') Z (Z.map λ_=>none)/\(∀v',All2 (DC T v') mc (Gh post.mem rcs')->(∀c x,c∈cs->DC T v1 c x->DC T v' c x)->All2 (DC T v') l rcs')/\(∀c∈l,c∈cs\/c∈mc):=by
   intro mc l hl hkb;have:=VJ (T:=T) (v:=v1) (w:=w') hl hkb (DCs.ext x1 hcso.2 h4) e3;rw[hMa,hAa];exact this
  split at h
  ·rename_i ev mem2 _ hev hmm;unfold VK at hmm;simp only at hmm;split at hmm;rotate_left
   ·cases hmm
   rename_i hkb;simp only[BG]at hmm;obtain⟨l,hl,rfl⟩:=hmm;obtain⟨c1,c2,c3⟩:=hmn hl hkb;obtain⟨vb,Hb⟩:=Nf (k:=k1) (v:=va) c1;have hnb:=Lm (CQ post.mem) k1;have hevb:=Ng (T:=T) (v:=vb) (CQ post.mem) k1;have xvb:Ext st.next v vb:=xa.trans Hb.ext hna;have hlo:l.all (SC.ok (BD (CQ post.mem) k1).2.2.2)=true:=by
    simp only[Bg];intro c hc;have q1:=hcso.2;have q2:=Hb.ok;simp only[Bg]at q1 q2;rcases c3 c hc with h|h
    ·exact SC.ok_mono (by omega) (q1 c h)
    ·exact q2 c h
   have hld:All2 (DC T vb) l rcs':=c2 vb Hb.cells (λc x hc hx=>by
    have q1:=hcso.2;simp only[Bg]at q1;exact DC.ext ((Ha.ext.mono (Ay _)).trans Hb.ext hna) (q1 c hc) hx)
   refine fin vb (BD (CQ post.mem) k1).1 (BD (CQ post.mem) k1).2.1 (BD (CQ post.mem) k1).2.2.2 [(g,t,l)] hnb Hb.ext (Hb.hM.trans hMa) (Hb.hA.trans hAa) Hb.facts Hb.okf Hb.ok (Cells.of Hb.cells) (by rw[hevb];exact Hb.sem) ?_ (by simp) ev hev h;intro p hpm;simp only[Ao,AB,or_false]at hpm;subst hpm;refine⟨rfl,⟨t,cs,h1⟩,b,rcs',h2,h3,?_,hld,hlo⟩;rw[Hb.hM.trans hMa,Hb.hA.trans hAa];exact e2
  ·cases h
end
def Abl(st:St)(con:Con)(evs:List EV):Option (Option (Nat×Nat×List SC)×List EV):=
 match con.ref with
 |none=>some (none,evs)
 |some (t,_)=>match evs with
  | .sc (.vp g 0)::es=>match Ck.get st.mem g with
   |some (t',cs)=>match Nat.beq t' t with
    |true=>some (some (g,t,cs),es)
    |false=>none
   |none=>none
  |_=>none
def cellsOf(og:Option (Nat×Nat×List SC)):List SC:=match og with
 |some (_,_,cs)=>cs
 |none=>[]
def Pa(T:Ar)(st:St)(con:Con)(evs:List EV)(lay:Nat)(m0:LE):Option (List (EV×St)):=
 match Abl st con evs with
 |none=>none
 |some (og,es)=>
  match Hl con.args es with
  |none=>none
  |some ac=>
   match Hz T st con.pats (cellsOf og++ac)with
   |none=>none
   |some gs=>
    match L1 gs,Ix (Bd con.pats (cellsOf og++ac)) con.facts st with
    |true,some st1=>
     match con.meas.ev (Bd con.pats (cellsOf og++ac)) st1 with
     |some (m,st2)=>
      match Nat.blt con.layer lay||(Nat.beq con.layer lay&&BF st2.facts CD m&&BF st2.facts CD (.sub (m0.addk (-1)) m))with
      |true=>D8 (SS T st2 og gs (Bd con.pats (cellsOf og++ac))) con.posts
      |false=>none
     |none=>none
    |_,_=>none
def Ar6(con:Con)(evs:List EV)(g:Nat):Prop:=con.ref=none\/∀o,evs.head? ≠some (.sc (.vp g o))
section
variable{P:Program}{T:Ar}{X:Cx}{nt:Nat}{v v':Val}{st st':St}{a:Act}{w w':World}{k k':Nat}
theorem Ag8(hp:Hp T X v st w){con:Con}{evs:List EV}{lay:Nat}{m0:LE}{outs:List (EV×St)}(h:Pa T st con evs lay m0=some outs){xs:List Value}(hev:All2 (DE T v) evs xs)(heo:∀e∈evs,e.ok st.next=true)(hm0:m0.ok st.next=true)
 {f:FuncId} (hc:Hd P T f con (Below con lay (m0.ev v.ρ))):
 Calls P f xs.toArray w (Go.Sx.End (λr w'=>∃p∈outs,∃v',Ext st.next v v'/\st.next<=p.2.next/\p.2.env=st.env/\Hp T X v' p.2 w'/\DE T v' p.1 r/\p.1.ok p.2.next=true/\
  ∀q∈st.mem,Ar6 con evs q.1->∀b,v.β q.1=some b->w'.heap[b]? =w.heap[b]?) λ_ _=>False):=by
 unfold Pa at h;split at h
 ·cases h
 rename_i og es hpr;split at h
 ·cases h
 rename_i ac hac;split at h
 ·cases h
 rename_i gs hml;split at h;rotate_left
 ·cases h
 rename_i st1 hnd hpt;split at h;rotate_left
 ·cases h
 rename_i m st2 hme;split at h;rotate_left
 ·cases h
 rename_i hbel
 --the arguments
 have hargs:∃(rb:Option Nat) (rcs:List Value) (css:List (List Value)),Rl T v st con og rb rcs/\(match con.ref with
  |none=>PAVs con.args xs css/\rcs=[]/\rb=none
  |some (t,l)=>∃b xs',xs= .pointer (some ⟨b,0,none⟩)::xs'/\rb=some b/\RefB w v.M v.A t b rcs/\PAVs con.args xs' css)/\All2 (DC T v) (cellsOf og++ac) (rcs++css.flatten)/\(cellsOf og++ac).all (SC.ok st.next)=true/\
  (∀b,rb=some b->∃g t cs,og=some (g,t,cs)/\evs.head? =some (.sc (.vp g 0))/\v.β g=some b/\(g,t,cs)∈st.mem):=by
  unfold Abl at hpr;split at hpr
  ·rename_i hr;cases hpr;obtain⟨css,a1,a2,a3⟩:=KS (v:=v) (vs:=xs) hac hev heo;exact⟨none,[],css,⟨rfl,rfl,hr⟩,⟨a1,rfl,rfl⟩,a2,a3,by simp⟩
  ·rename_i t lp hr;split at hpr
   ·rename_i g es';split at hpr
    ·rename_i t' cs hg;split at hpr<;>cases hpr;rename_i ht;have ht:=AH ht;subst ht;cases xs with
     |nil=>exact hev.elim
     |cons x xs=>
      obtain⟨b,h1,rfl⟩:=hev.1;have hm:=Eh hg;obtain⟨⟨b',vs,e1,e2,e3,e4,e5,e6,_⟩,e8⟩:=hp.mem _ hm;simp only at e1 e2 e3;rw[h1]at e1;cases e1;simp only[C6,Aq]at e8;obtain⟨css,a1,a2,a3⟩:=KS (v:=v) (vs:=xs) hac hev.2 (λe he=>heo e (by simp[he]));refine⟨some b,vs,css,⟨hm,⟨b,rfl,h1⟩,e3,lp,hr⟩,⟨b,xs,rfl,rfl,⟨e2,e4,e5,e6⟩,a1⟩,e3.append a2,?_,?_⟩
      ·simp only[cellsOf,HN,Aq];exact⟨e8.2,a3⟩
      ·intro b' hb';cases hb';exact⟨g,t',cs,rfl,rfl,h1,hm⟩
    ·cases hpr
   ·cases hpr
 obtain⟨rb,rcs,css,hH,hA,hcc,hco,hrb⟩:=hargs;obtain⟨os,hv,hfo,hsep,_⟩:=Nu hp hml hcc;have hvo:=K5 (ps:=con.pats) hco;have hvc:=LR (ps:=con.pats) (Cells.of hcc);obtain⟨v1,g1,hfacts⟩:=Q3 hp hvo hvc hpt;have hvo1:=SCs.ok_mono g1.next hvo;obtain⟨v2,g2,hmo,hmv⟩:=Hj con.meas g1.hp hvo1 (Cells.ext g1.ext hvo hvc) hme;have g:=g1.trans g2;have hS1:(Bd con.pats (cellsOf og++ac)).map (sem T v1)=(Bd con.pats (cellsOf og++ac)).map (sem T v):=J4 g1.ext hvo;have hS2:(Bd con.pats (cellsOf og++ac)).map (sem T v2)=(Bd con.pats (cellsOf og++ac)).map (sem T v):=J4 g.ext hvo;rw[hS1]at hmv;have hSepAll:D5 (rb::B8 con.pats os):=by
  refine List.Pairwise.cons ?_ (hsep hnd);intro c hc d hd hcd;subst hcd;obtain⟨gg,t,cs,_,_,h3,h4⟩:=hrb d hd;obtain⟨g',h5,h6,q,h7⟩:=hfo d hc;exact hp.moU _ h4 _ h7 d h3 h6
 have hE:KA T w v.M v.A con xs ((Bd con.pats (cellsOf og++ac)).map (sem T v)) rb rcs css os:=by
  refine⟨⟨hp.hM,hp.hA⟩,hA,hv,hSepAll,hfacts⟩
 have hB:Below con lay (m0.ev v.ρ) (con.meas.den ((Bd con.pats (cellsOf og++ac)).map (sem T v))):=by
  simp only[HM,Aq,A_]at hbel;rcases hbel with hb|⟨⟨hb1,hb2⟩,hb3⟩
  ·exact .inl hb
  ·right;have p1:=BU g.hp.facts _ _ hb2;have p2:=BU g.hp.facts _ _ hb3;simp only[LE.sub_ev,LE.addk_ev]at p2;rw[Bj g.ext.ρ hm0]at p2;rw[hmv]at p1 p2;exact⟨AH hb1,p1,by omega⟩
 refine(hc w v.M v.A xs _ rb rcs css os hE hB).mono ?_;intro e w'' he;cases e with
 |panicked ch=>exact he.elim
 |outgrown=>exact he.elim
 |returned r=>
  obtain⟨post,hpm,M',A',Y,Z,rcs',css',ros,hpo⟩:=he;obtain⟨out1,ho1,ho2⟩:=Ef h post hpm;have hH2:Rl T v2 st2 con og rb rcs:=by
   refine⟨?_⟩;have:=hH.og;cases og with
   |none=>exact this
   |some q=>
    obtain⟨gg,t,cs⟩:=q;obtain⟨k1,⟨b,k2,k3⟩,k4,k5⟩:=this;have kk:=(hp.mem _ k1).2;simp only[C6,Aq,A_]at kk;refine⟨by rw[g.mem];exact k1,⟨b,k2,by rw[g.ext.β _ kk.1];exact k3⟩,DCs.ext g.ext kk.2 k4,k5⟩
  have hfo2:Rk v2 st2 gs (B8 con.pats os):=by
   intro b hb;obtain⟨gg,k1,k2,q,k3⟩:=hfo b hb;have kk:=(hp.own _ k3).2;simp only[DA,Aq,A_]at kk;exact⟨gg,k1,by rw[g.ext.β _ kk.1];exact k2,q,by rw[g.own];exact k3⟩
  have hpo2:Fw T w v2.M v2.A con ((Bd con.pats (cellsOf og++ac)).map (sem T v)) rb rcs os post r w'' M' A' Y Z rcs' css' ros:=by rw[g.hM,g.hA];exact hpo
  obtain⟨p,q1,v3,q2,q3,q4,q5,q6,q7⟩:=Ag7 g.hp ho1 hH2 hfo2 (SCs.ok_mono g.next hvo) (Cells.ext g.ext hvo hvc) hS2 hpo2;refine⟨p,ho2 p q1,v3,g.ext.trans q2 g.next,AX g.next q3,q4.trans g.env,q5,q6,q7,?_⟩;intro qm hqm hnr b hb;have hlt:=hp.mem_lt hqm hb;have hA0:v.A b=none:=by
   obtain⟨⟨b',cs',e3,_,_,_,_,e6,_⟩,_⟩:=hp.mem _ hqm;rw[hb]at e3;cases e3;exact e6
  refine hpo.fra.blk b hlt ?_ hA0;rintro(hq|hq)
  ·obtain⟨gg,t,cs,h1,h2,h3,h4⟩:=hrb b hq;have:=hp.memU _ h4 _ hqm b h3 hb;simp only at this;rcases hnr with hnr|hnr
   ·have:=hH.og;rw[h1]at this;obtain⟨_,_,_,l,hl⟩:=this;rw[hnr]at hl;cases hl
   ·exact hnr 0 (by rw[<-this];exact h2)
  ·obtain⟨gg,k1,k2,q,k3⟩:=hfo b hq;exact hp.moU _ hqm _ k3 b hb k2
end
def Vt(T:Ar)(lk:Nat->LK)(st:St)(t i:Nat):Option St:=
 match lk t with
 | .fz e=>match Ck.get st.env i with
  |some (.sc (.vp g o))=>match Ck.get st.mem g with
   |some (u,l)=>match Nat.beq o 0 with
    |true=>match Lg T st.facts e [l] 0 with
     |some (m,ds)=>match N4 st.next m ds with
      |true=>some {(Lx st u e 1 m ds st.own).2 with mem:=FA st.mem g,env:=(i,.sc (.pt e (.s (st.next+1)) (.s (st.next+2))))::st.env}
      |false=>none
     |none=>none
    |false=>none
   |none=>none
  |_=>none
 |_=>none
theorem VL{α:Type}:∀{l:List (Nat×α)}{j:Nat}{p:Nat×α},p∈l->p.1≠j->p∈FA l j
 |[],_,_,h,_=>by simp at h
 |q::l,j,p,h,hj=>by
  simp only[FA];split<;>rename_i hb
  ·rcases Ao.1 h with rfl|h
   ·exact absurd (by simpa using hb) hj
   ·exact VL h hj
  ·rcases Ao.1 h with rfl|h
   ·exact E4
   ·exact Ft _ (VL h hj)
section
variable{T:Ar}{X:Cx}{nt:Nat}{v v':Val}{st st':St}{a:Act}{w w':World}
theorem Hp.drop(hp:Hp T X v st w)(g:Nat):Hp T X v {st with mem:=FA st.mem g} w:=
 {hp with
  mem:=λp h=>hp.mem p (DJ h).1
  memU:=λp h q k=>hp.memU p (DJ h).1 q (DJ k).1
  moU:=λp h=>hp.moU p (DJ h).1}
variable{t:Nat}
theorem An2(P:Program)(h:Den T X nt v st a w){lk:Nat->LK}{i:Nat}(hr:Vt T lk st t i=some st'):
 ∃v' g o p,Ext st.next v v'/\st.next<=st'.next/\Den T X nt v' st' a w/\st'.mem=FA st.mem g/\Ck.get st.env i=some (.sc (.vp g o))/\st'.env=(i,.sc p)::st.env/\∀g' o',p≠ .vp g' o':=by
 unfold Vt at hr;split at hr;rotate_left
 ·cases hr
 rename_i e hlk;split at hr;rotate_left
 ·cases hr
 rename_i g o hg;split at hr;rotate_left
 ·cases hr
 rename_i u l hm;split at hr;rotate_left
 ·cases hr
 rename_i ho;have ho:=AH ho;subst ho;split at hr;rotate_left
 ·cases hr
 rename_i m ds hfit;split at hr;rotate_left
 ·cases hr
 rename_i hmd;cases hr;have hmem:=Eh hm;obtain⟨⟨b,cs,e1,e2,e3,e4,e5,e6,e7⟩,e8⟩:=h.hp.mem _ hmem;simp only at e1 e2 e3;obtain⟨y,y1,y2,y3⟩:=h.env _ _ hg;obtain⟨b',y4,rfl⟩:∃b,v.β g=some b/\y= .pointer (some ⟨b,0,none⟩):=y2;rw[e1]at y4;cases y4;obtain⟨hcl,L,S⟩:=TG (css:=[cs]) h.hp.facts hfit ⟨e3,trivial⟩;have hcl:=hcl cs (by simp);have hLl:L.length=1:=by simpa using S.len
 have hp0:=h.hp.drop g;obtain⟨x,v',G⟩:=Aa0 (P:=P) (w':=w) hp0 (el:=u) (e:=e) (n:=1) (cap:=1) (b:=b) (N:=1*(T e).cells.length) (cs:=cs) (m:=m) (ds:=ds) (L:=L) hmd rfl rfl rfl (Ay _) (λ_ _ _=>rfl) e2 (by omega)
  (λo x hx=>by rw[e5 o]at hx;cases hx) e6 (λp hp he=>(DJ hp).2 (h.hp.memU p (DJ hp).1 _ hmem b he e1)) (own':=st.own) (λp hp=>⟨hp,h.hp.moU _ hmem p hp b e1⟩)
  (λo x _ hx=>e4 x (BA hx)) e7 rfl (by omega) (Ay _) (by decide) hLl
  (λM' hM hc=>S.rep M' b 0 hM (λi x hx=>by
   simp only[E3,Rs,FW]at hx;rw[BO];exact hc i x (by have:=(C3.1 hx).1;omega) hx)) S.m S.d
  (s:=pure (.slice (some ⟨b,0,none⟩) 1 1)) (by simp)
 have hx:x= .slice (some ⟨b,0,none⟩) 1 1:=by
  have:=G.run;simp only[Sem.run_pure]at this;cases this;rfl
 subst hx;obtain⟨d1,⟨aa,cap,d2,d3,d4⟩,d5,d6,d7,_⟩:=G.de;injection d2 with f1 f2 f3;subst f1;subst f3;have hpt:DC T v' (.pt e (.s (st.next+1)) (.s (st.next+2))) (.pointer (some ⟨b,0,none⟩)):=by
  change (v'.δ st.next).e=e at d1;change 1=(v'.δ st.next).l.length at f2;change (v'.δ st.next).l=[]\/some (⟨b,0,none⟩:Addr)=some ⟨(v'.δ st.next).b,(v'.δ st.next).o,none⟩/\(v'.δ st.next).l.length<=1/\1<=maxLen/\RepL T v'.M v'.A (v'.δ st.next).l (v'.δ st.next).e (v'.δ st.next).b (v'.δ st.next).o 0 at d4;change LE.ev v'.ρ (.s (st.next+1))=Az T (v'.δ st.next).l e at d6;change LE.ev v'.ρ (.s (st.next+2))=Bi T (v'.δ st.next).l e at d7;generalize hu:v'.δ st.next=uu at*;obtain⟨ue,ul,ub,uo⟩:=uu;simp only at d1 f2 d4 d6 d7;subst d1;match ul,f2 with
  |[r],_=>
   rcases d4 with d4|⟨f1,_,_,f4⟩
   ·cases d4
   injection f1 with f1;injection f1 with g1 g2;subst g1;subst g2;simp only[RepL]at f4;refine⟨.pt r,?_,?_,?_⟩
   ·simp only[RepC];exact⟨_,_,rfl,f4.1⟩
   ·rw[d6];simp only[Bl,Az];omega
   ·rw[d7];simp only[Df,Bi];have:=Po T r (T ue).cells;omega
  |[],d5=>simp at d5
  |_::_::_,d5=>simp at d5
 refine⟨v',g,0,.pt e (.s (st.next+1)) (.s (st.next+2)),G.ext,G.next,⟨h.size,h.defers,?_,?_⟩,rfl,hg,rfl,by simp⟩
 ·intro j ev hj;simp only[Ck.get_nil,Ck.get_cons]at hj;split at hj
  ·rename_i hb;cases hj;have hb:=AH hb;subst hb;refine⟨_,y1,hpt,?_⟩;simp[Lx,EV.ok,SC.ok,LE.ok,LE.s,Bq,A_]
  ·obtain⟨y,k1,k2,k3⟩:=h.env j ev hj;exact⟨y,k1,DE.ext G.ext k3 k2,EV.ok_mono G.next k3⟩
 ·exact G.hp.env _
end
def K1:List (Nat×Operand)->Nat->Option (List ByteArray)
 |[],_=>some []
 |(i,.const (.string s))::r,k=>match Nat.beq i k&&Nat.ble s.size maxLen,K1 r (k+1)with
  |true,some l=>some (s::l)
  |_,_=>none
 |_::_,_=>none
def Nt(b c0 c1 c2:Nat):List ByteArray->Int
 |[]=>0
 |s::l=>b+CF c0 c1 c2 s.size+Nt b c0 c1 c2 l
def Ns(dp:Int):List ByteArray->Int
 |[]=>0
 |_::l=>max dp (Ns dp l)
def V8(T:Ar)(ty:Nat->Option TI)(lk:Nat->LK)(st:St)(t len:Nat)(parts:List (Nat×Operand)):Option (EV×St):=
 match ty t,K1 parts 0,lk t with
 |some ti,some ss,.fz e=>match ti.d with
  | .slice el=>match ty el with
   |some te=>match(T e).cells with
    |[.str c0 c1 c2]=>match Nat.beq te.size 1&&Nat.beq parts.length len&&Nat.ble len 16777216&&(T e).inv.isEmpty with
     |true=>some (.sc (.lit e ss len (Nt (T e).base c0 c1 c2 ss) (Ns (T e).deep ss)),st)
     |false=>none
    |_=>none
   |none=>none
  |_=>none
 |_,_,_=>none
section
variable{P:Program}{T:Ar}{X:Cx}{nt:Nat}{v v':Val}{st st':St}{a:Act}{w w':World}
theorem Ac3:∀{parts:List (Nat×Operand)}{k:Nat}{ss:List ByteArray},K1 parts k=some ss->(parts.map λp=>(p.1,a.eval p.2))=(ss.zipIdx k).map (λq=>(q.2,Value.string q.1))/\∀s∈ss,s.size<=maxLen
 |[],k,ss,h=>by simp only[K1]at h;cases h;exact⟨rfl,by simp⟩
 |(i,o)::r,k,ss,h=>by
  cases o with
  |const c=>
   cases c with
   |string s=>
    simp only[K1]at h;split at h
    ·rename_i l hb hl;cases h;simp only[Aq]at hb;obtain⟨h1,h2⟩:=Ac3 hl;have hi:=AH hb.1;subst hi;refine⟨?_,?_⟩
     ·simp only[CA,O7,h1];rfl
     ·intro x hx;rcases Ao.1 hx with rfl|hx
      ·exact CK hb.2
      ·exact h2 x hx
    ·cases h
   |_=>simp[K1]at h
  |_=>simp[K1]at h
theorem Aao{e c0 c1 c2:Nat}(h:(T e).cells=[.str c0 c1 c2]):∀(ss:List ByteArray),Nt (T e).base c0 c1 c2 ss=Az T (DM ss) e
 |[]=>by simp[Nt,DM,Az]
 |s::l=>by
  have:=Aao h l;simp only[DM]at this;simp only[Nt,DM,CA,Az,h,CP,Bl,this];try omega
theorem Aan{e c0 c1 c2:Nat}(h:(T e).cells=[.str c0 c1 c2]):∀(ss:List ByteArray),Ns (T e).deep ss=Bi T (DM ss) e
 |[]=>by simp[Ns,DM,Bi]
 |s::l=>by
  have:=Aan h l;simp only[DM]at this;simp only[Ns,DM,CA,Bi,h,EC,Df,this];congr 1;try omega
theorem Aap{M:AT}{A:AV}{e c0 c1 c2 b:Nat}(hc:(T e).cells=[.str c0 c1 c2])(hi:(T e).inv=[]):∀(ss:List ByteArray) (o j:Nat),(∀s∈ss,s.size<=maxLen)->(∀i s,ss[i]? =some s->M b (o+i)=some (.string s))->RepL T M A (DM ss) e b o j
 |[],o,j,_,_=>by simp only[DM,Rv,RepL]
 |s::l,o,j,h1,h2=>by
  have ih:=Aap (M:=M) (A:=A) (b:=b) hc hi l (o+1) (j+1) (λx hx=>h1 x (by simp[hx])) (λi x hx=>by
   have:=h2 (i+1) x (by simpa using hx);rwa[show o+(i+1)=o+1+i from by omega]at this)
  simp only[DM]at ih;simp only[DM,CA,RepL,hc,RepR,RepC,Cg,DS];refine⟨⟨⟨.string s,h2 0 s V,rfl,h1 s (by simp)⟩,trivial⟩,?_,ih⟩;intro f hf;rw[hi]at hf;simp at hf
theorem Hp.back(hp:Hp T X v st w){own':List (Nat×Nat×Nat×LE)}{fs:List LE}{ms:List (Nat×List LE)}{nx:Nat}(hp2:Hp T X v' {st with own:=own',facts:=fs++st.facts,maxs:=ms++st.maxs,next:=nx} w')(hsub:∀p∈st.own,p∈own'):Hp T X v' st w' where
 fra:=hp2.fra
 ext:=hp2.ext
 kk:=hp.kk
 hM:=hp2.hM
 hA:=hp2.hA
 mem:=λp h=>⟨(hp2.mem p h).1,(hp.mem p h).2⟩
 own:=λp h=>⟨(hp2.own p (hsub p h)).1,(hp.own p h).2⟩
 rows:=λp h=>⟨(hp2.rows p h).1,(hp.rows p h).2⟩
 pres:=λp h=>⟨(hp2.pres p h).1,(hp.pres p h).2⟩
 rix:=λp h=>⟨(hp2.rix p h).1,(hp.rix p h).2⟩
 maxs:=λp h=>⟨(hp2.maxs p (KD _ h)).1,(hp.maxs p h).2⟩
 facts:=λf h=>hp2.facts f (KD _ h)
 okf:=hp.okf
 memU:=hp2.memU
 ownU:=λp h q k=>hp2.ownU p (hsub p h) q (hsub q k)
 moU:=λp h q k=>hp2.moU p h q (hsub q k)
variable{ev:EV}{t:Nat}{ty:Nat->Option TI}
theorem Ard{lk:Nat->LK}(hty:CB P ty)(h:Den T X nt v st a w){len:Nat}{parts:List (Nat×Operand)}(hr:V8 T ty lk st t len parts=some (ev,st')):
 ∃x v' w',MGo P T X v st w (Instr.buildSlice t len (parts.map λp=>(p.1,a.eval p.2)).toArray) ev st' x v' w':=by
 unfold V8 at hr;split at hr;rotate_left
 ·cases hr
 rename_i ti ss e hti hss hlk;split at hr;rotate_left
 ·cases hr
 rename_i el hd;have u1:=(hty _ _ hti).d;rw[hd]at u1;split at hr;rotate_left
 ·cases hr
 rename_i te hte;have u2:=hty _ _ hte;split at hr;rotate_left
 ·cases hr
 rename_i c0 c1 c2 hcells;split at hr<;>cases hr;rename_i hb;simp only[Aq]at hb;obtain⟨⟨⟨hb1,hb2⟩,hb3⟩,hb4⟩:=hb;have hsz:=AH hb1;have hlen:=AH hb2;have hmax:=CK hb3;have hinv:(T e).inv=[]:=List.isEmpty_iff.1 hb4;obtain⟨hparts,hsm⟩:=Ac3 (a:=a) hss;have hpl:(parts.map λp=>(p.1,a.eval p.2)).length=len:=by simpa using hlen
 have hsl:ss.length=len:=by
  have:=hpl;rw[hparts]at this;simpa using this
 have hord:ED (parts.map λp=>(p.1,a.eval p.2)) 0=true:=by
  rw[hparts];have key:∀(l:List ByteArray) (k:Nat),ED ((l.zipIdx k).map (λq=>(q.2,Value.string q.1))) k=true:=by
   intro l;induction l with
   |nil=>intro k;rfl
   |cons s l ih=>intro k;simp only[O7,CA,ED,ih];simp
  exact key ss 0
 have hcs:∀p∈(parts.map λp=>(p.1,a.eval p.2)),p.2.cells.size=te.size:=by
  intro p hp;rw[hparts]at hp;obtain⟨q,_,rfl⟩:=BY.1 hp;rw[hsz];rfl
 have hrun:=Wn u1 u2 rfl (by omega) (by rw[hsz];omega) hord hpl hcs w;have hflat:((parts.map λp=>(p.1,a.eval p.2)).map λp=>p.2.cells.toList).flatten=ss.map Value.string:=by
  rw[hparts];have key:∀(l:List ByteArray) (k:Nat),(((l.zipIdx k).map (λq=>(q.2,Value.string q.1))).map λp=>p.2.cells.toList).flatten=l.map Value.string:=by
   intro l;induction l with
   |nil=>intro k;rfl
   |cons s l ih=>
    intro k;simp only[O7,CA,E3,ih];rfl
  exact key ss 0
 rw[hflat]at hrun;have hMn:=h.hp.M_new;have hcl:(ss.map Value.string).length=len*(T e).cells.length:=by simp[hcells,hsl]
 have H:=h.hp.frz (w':=w.alloc (.cells (ss.map Value.string).toArray el)) (b:=w.heap.size) (N:=len*(T e).cells.length) (n:=len) (cap:=len) (cs:=ss.map Value.string) (t:=el) (e:=e) (ne:=.k len) (λ_=>0) ⟨e,[],0,0⟩ rfl rfl rfl (by simp)
  (λc hc _=>heap_alloc_old w _ c hc) Cf (by omega) (λo x hx=>by rw[hMn o]at hx;cases hx) h.hp.A_new (λp hp he=>by have:=h.hp.mem_lt hp he;omega) (own':=st.own) (λp hp=>⟨hp,λhe=>by have:=h.hp.own_lt hp he;omega⟩)
  (λo x _ hx=>by
   have hx:=BA hx;obtain⟨s,_,rfl⟩:=BY.1 hx;rfl) (.inr h.hp.fra.size) rfl hcl (Ay _) (by simp only[maxLen];omega) (nx:=st.next+1) (Cb _) rfl (by simp) (fs:=[]) (by simp[Holds]) (by simp) (ms:=[]) (by simp)
 have hp3:=h.hp.back H.2 (λp hp=>Ft _ hp);refine⟨_,_,_,hrun,H.1,Ay _,rfl,hp3,?_,rfl,λp hp b hb=>heap_alloc_old w _ b (h.hp.mem_lt hp hb)⟩;show DC T _ (.lit e ss len _ _) _;refine⟨⟨w.heap.size,0,some ⟨w.heap.size,0,none⟩,len,?_,?_,?_⟩,by rw[hsl],Aao hcells ss,Aan hcells ss⟩
 ·simp only[DM,Rt,hsl]
 ·simp only[DM,Rt,maxLen];omega
 ·by_cases h0:ss=[]
  ·left;simp[DM,h0]
  ·right;refine⟨rfl,by simp only[DM,Rt];omega,by simp only[maxLen];omega,?_⟩;refine Aap hcells hinv ss 0 0 hsm λi s hi=>?_;have hil:i<ss.length:=(C3.1 hi).1;have hlt:i<len*(T e).cells.length:=by rw[hcells];simp;omega
   simp[Val.frz,hlt,hi]
end
def ints(k:IntKind)(cs:List Value):Prop:=∀x∈cs,∃n,x= .int k n/\Bs k n
section
variable{P:Program}{T:Ar}{X:Cx}{nt:Nat}{v v':Val}{st st':St}{a:Act}{w w':World}
variable{k:IntKind}
theorem Jh{a b:List Value}(ha:ints k a)(hb:ints k b):ints k (a++b):=by
 intro x hx;rcases B3.1 hx with h|h
 ·exact ha x h
 ·exact hb x h
theorem V0{a:List Value}(ha:ints k a):∀u∈a,u.oneCell'=true:=by
 intro u hu;obtain⟨n,rfl,_⟩:=ha u hu;rfl
theorem ArV.seg{A:AV}{n:Nat}{x:Value}(h:ArV A k n x)(hA:∀b k sz,A b=some (k,sz)->LU w b k sz):
 (x= .slice none 0 0/\n=0)\/∃b o cap sz cs t,x= .slice (some ⟨b,o,none⟩) n cap/\n<=cap/\cap<=maxLen/\A b=some (k,sz)/\o+cap<=sz/\w.heap[b]? =some (.cells cs.toArray t (0,0))/\cs.length=sz/\ints k cs/\
  ((cs.drop o).take n).length=n/\∀j u,((cs.drop o).take n)[j]? =some u->w.cell? ((⟨b,o,none⟩:Addr).add j)=some u:=by
 obtain⟨aa,cap,rfl,h1,h2,h3⟩:=h;rcases h3 with⟨rfl,rfl⟩|⟨b,o,sz,rfl,h3,h4⟩
 ·left;have:n=0:=by omega
  subst this;exact⟨rfl,rfl⟩
 ·right;obtain⟨cs,t,h5,h6,h7⟩:=hA b k sz h3;refine⟨b,o,cap,sz,cs,t,rfl,h1,h2,h3,h4,h5,h6,h7,?_,?_⟩
  ·simp only[HO,ID];omega
  ·intro j u hu;rw[Ea]at hu;split at hu
   ·rw[He]at hu;have hadd:(⟨b,o,none⟩:Addr).add j=⟨b,o+j,none⟩:=by unfold Addr.add;split<;>simp_all
    rw[hadd];unfold World.cell?;simp[h5,hu]
   ·cases hu
def KR(k:IntKind):SC->Option LE
 | .ar k' n=>match decide (k=k')with
  |true=>some n
  |false=>none
 | .nil=>some (.k 0)
 |_=>none
variable{vx:Value}{n:LE}{x:SC}
theorem OR{kk:Nat}(h:KR k x=some n)(hx:DC T v x vx)(ho:x.ok kk=true):n.ok kk=true/\∃j:Nat,n.ev v.ρ=j/\ArV v.A k j vx:=by
 cases x<;>simp only[KR]at h<;>try cases h
 case ar k' n'=>
  split at h<;>cases h;rename_i hk;have hk:k=k':=by simpa using hk
  subst hk;exact⟨ho,hx⟩
 case nil=>
  cases hx;exact⟨rfl,0,by simp,none,0,rfl,Ay _,AW _,.inl ⟨rfl,rfl⟩⟩
variable{j:Nat}{s:Sem Value}
theorem Xq(hp:Hp T X v st w)(hn:n.ok st.next=true)(hj:n.ev v.ρ=j){x:Value}(hx:ArV v.A k j x)(hr:s.run P w= .ok x w):MGo P T X v st w s (.sc (.ar k n)) st x v w:=
 ⟨hr,Ext.refl _ _,Ay _,rfl,hp,⟨j,hj,hx⟩,hn,λ_ _ _ _=>rfl⟩
theorem Xr(hp:Hp T X v st w)(hn:n.ok st.next=true)(hj:n.ev v.ρ=j){b sz:Nat}(hb:v.A b=some (k,sz)){cs:List Value}(hl:cs.length=sz)(hi:ints k cs){x:Value}(hx:ArV v.A k j x)(hr:s.run P w= .ok x (w.setRow b cs.toArray)):
 MGo P T X v st w s (.sc (.ar k n)) st x v (w.setRow b cs.toArray):=by
 refine⟨hr,Ext.refl _ _,Ay _,rfl,hp.arrSet hb hl hi,⟨j,hj,hx⟩,hn,λp hpm c hc=>setRow_other w b c _ λe=>?_⟩;subst e;obtain⟨⟨b',cs',g1,_,_,_,_,g6,_⟩,_⟩:=hp.mem p hpm;rw[hc]at g1;cases g1;rw[hb]at g6;cases g6
variable{t:Nat}
theorem R1(hp:Hp T X v st w)(hn:n.ok st.next=true){cap:Nat}(hj:n.ev v.ρ=j){cs:List Value}(hl:cs.length=cap)(hi:ints k cs)(hjc:j<=cap)(hcm:cap<=maxLen){d:Nat}
 (hr:s.run P w= .ok (.slice (some ⟨w.heap.size,0,none⟩) j cap) (World.alloc {w with drawn:=d} (.cells cs.toArray t))):
 ∃v',MGo P T X v st w s (.sc (.ar k n)) st (.slice (some ⟨w.heap.size,0,none⟩) j cap) v' (World.alloc {w with drawn:=d} (.cells cs.toArray t)):=by
 have H:=(hp.drawn d).newArr t hi;refine⟨_,hr,H.1,Ay _,rfl,H.2,⟨j,?_,?_⟩,hn,λp hpm c hc=>heap_alloc_old {w with drawn:=d} _ c (hp.mem_lt hpm hc)⟩
 ·rw[Bj H.1.ρ hn];exact hj
 ·refine⟨_,cap,rfl,hjc,hcm,.inr ⟨w.heap.size,0,cap,rfl,?_,by omega⟩⟩;simp[Val.newA,hl]
def Oh(k:IntKind):List Value->Bool
 |[.int k' n]=>decide (k=k')&&decide (n=0)
 |_=>false
theorem Xh{l:List Value}(h:Oh k l=true):l=[.int k 0]:=by
 unfold Oh at h;split at h
 ·simp only[Aq,decide_eq_true_eq]at h;rw[h.1,h.2]
 ·cases h
theorem Xg{z:Array Value}(hz:z=#[.int k 0])(n:Nat):ints k (Builtin.zeroCells z n).toList/\(Builtin.zeroCells z n).toList.length=n:=by
 subst hz;refine⟨?_,by simp[Builtin.zeroCells]⟩;intro x hx;simp[Builtin.zeroCells]at hx;obtain⟨i,_,rfl⟩:=hx;exact⟨0,by simp[Ml],by cases k<;>simp[Bs,Cq,C1]⟩
theorem Ars{z:Array Value}(hz:z=#[.int k 0])(n:Nat):ints k (madeCells z n).toList/\(madeCells z n).toList.length=n:=by
 subst hz;refine⟨?_,by simp[madeCells]⟩;intro x hx;simp[madeCells]at hx;obtain⟨i,_,rfl⟩:=hx;exact⟨0,by simp[Ml],by cases k<;>simp[Bs,Cq,C1]⟩
def Sp(ty:Nat->Option TI)(st:St)(k:IntKind)(t u:Nat)(x y:SC):Option (EV×St):=
 match ty t,ty u with
 |some ti,some ui=>match ti.d,ui.d with
  | .slice el,.slice _=>match ty el with
   |some te=>match KR k x,KR k y with
    |some n,some m=>match Oh k te.zero&&Nat.beq te.size 1&&Nat.blt 0 te.bytes&&BF st.facts CD (.sub (.k ((140737488355328/te.bytes:Nat):Int)) (.add n m))with
     |true=>some (.sc (.ar k (.add n m)),st)
     |false=>none
    |_,_=>none
   |none=>none
  |_,_=>none
 |_,_=>none
variable{vy:Value}{ev:EV}{y:SC}{ty:Nat->Option TI}
theorem Aet(hty:CB P ty)(hp:Hp T X v st w){u ot:Nat}(h:Sp ty st k t u x y=some (ev,st'))(hx:DC T v x vx)(hxo:x.ok st.next=true)(hy:DC T v y vy)(hyo:y.ok st.next=true):
 ∃z v' w',MGo P T X v st w (Builtin.append_ #[t,u] ot #[vx,vy]) ev st' z v' w':=by
 unfold Sp at h;split at h;rotate_left
 ·cases h
 rename_i ti ui hti hui;split at h;rotate_left
 ·cases h
 rename_i el e2 hd1 hd2;have u1:=(hty _ _ hti).d;rw[hd1]at u1;have u2:=(hty _ _ hui).d;rw[hd2]at u2;split at h;rotate_left
 ·cases h
 rename_i te hte;have I:=hty _ _ hte;split at h;rotate_left
 ·cases h
 rename_i n m hn hm;split at h<;>cases h;rename_i hb;simp only[Aq]at hb;have hz:=Xh hb.1.1.1;have hsz:=AH hb.1.1.2;have hby:0<te.bytes:=by simpa[A_]using hb.1.2
 obtain⟨no,j,hj,hvx⟩:=OR hn hx hxo;obtain⟨mo,i,hi,hvy⟩:=OR hm hy hyo;have p1:=BU hp.facts _ _ hb.2;simp only[LE.sub_ev,LE.k_ev,LE.add_ev,hj,hi]at p1;have hbound:(j+i)*te.bytes<=140737488355328:=by
  have h1:j+i<=140737488355328/te.bytes:=by omega
  exact AX (EL _ h1) (RE _ _)
 have hnm:j+i<=maxLen:=by
  have:(j+i)*1<=(j+i)*te.bytes:=IJ _ hby;simp only[maxLen];omega
 have hno:(LE.add n m).ok st.next=true:=Mc no mo;have hnv:(LE.add n m).ev v.ρ=(j+i:Nat):=by rw[LE.add_ev,hj,hi];omega
 obtain⟨inf,z,i1,i2,i3,i4,i5⟩:=I.info;have hzc:z.cells=#[.int k 0]:=by rw[i3,hz]
 have hsmall:j+i<=9223372036854775807:=by simp only[maxLen]at hnm;omega
 have hi4:inf.size=1:=by rw[i4,hsz]
 --what is added
 have src:∃news,Src P inf.size u vy i news w/\ints k news/\news.length=i:=by
  rcases hvy.seg hp.hA with⟨rfl,rfl⟩|⟨b,o,cap,sz,cs,t',rfl,s1,s2,s3,s4,s5,s6,s7,s8,s9⟩
  ·exact⟨[],Src.ofNil w u2 0,⟨λx hx=>absurd hx (by simp),rfl⟩⟩
  ·have hint:ints k ((cs.drop o).take i):=λx hx=>s7 x (Fu (_root_.Fd hx));exact⟨_,Src.ofSlice w u2 ⟨b,o,none⟩ i cap _ (by rw[hi4,s8];omega) s9 (V0 hint),hint,s8⟩
 obtain⟨news,hs,hni,hnl⟩:=src;have grow:∀{aa:Option Addr}{cap:Nat}{olds:List Value},ints k olds->olds.length=j->vx= .slice aa j cap->cap<j+i->(Builtin.firstCells inf.size j (.slice aa j cap)).run P w.drew= .ok olds.toArray w.drew->
  ∃z v' w',MGo P T X v st w (Builtin.append_ #[t,u] ot #[vx,vy]) (.sc (.ar k (.add n m))) st z v' w':=by
  intro aa cap olds ho hol hvx' hlt hf;have hr:=run_append_grow_src (P:=P) w t u ot el inf z u1 i1 i2 aa j cap olds hf vy i news hs hlt (by omega) (growslice_fits hlt (by rw[i5];exact hbound));have hge:=grownCap_ge w (j+i) cap el;have hcm:grownCap w (j+i) cap el<=maxLen:=grownCap_le_maxLen w (j+i) cap el hnm;have hzz:=Xg hzc (grownCap w (j+i) cap el-(j+i));rw[<-hvx']at hr;obtain⟨v',hm⟩:=R1 hp (n:=.add n m) hno (j:=j+i) (cap:=grownCap w (j+i) cap el) (t:=el) hnv (cs:=(olds++news)++(Builtin.zeroCells z.cells (grownCap w (j+i) cap el-(j+i))).toList)
   (by simp only[Bh,hol,hnl,hzz.2];omega) (Jh (Jh ho hni) hzz.1) hge hcm (d:=w.drawn+1) (s:=Builtin.append_ #[t,u] ot #[vx,vy]) (by
    rw[hr];have:((olds++news).toArray++Builtin.zeroCells z.cells (grownCap w (j+i) cap el-(j+i)))=((olds++news)++(Builtin.zeroCells z.cells (grownCap w (j+i) cap el-(j+i))).toList).toArray:=DB.mp (by simp);rw[this];rfl)
  exact⟨_,v',_,hm⟩
 rcases hvx.seg hp.hA with⟨rfl,rfl⟩|⟨b,o,cap,sz,cs,t',rfl,s1,s2,s3,s4,s5,s6,s7,s8,s9⟩
 ·by_cases hm0:i=0
  ·subst hm0;have hn0:news=[]:=E2 hnl;subst hn0;refine⟨.slice none 0 0,v,w,Xq hp hno hnv hvx ?_⟩;rcases hs.kind with⟨e',hk⟩|hk<;>simp[Builtin.append_,run_underlying u1,run_underlying hk,sizeOf,typeInfo,i1,hs.len,hs.cells]
  ·exact grow (olds:=[]) (λx hx=>absurd hx (by simp)) V V (by omega) (by simp[Builtin.firstCells])
 ·by_cases hroom:j+i<=cap
  ·have hfit:o+j+news.length<=cs.toArray.size:=by simp only[GF];omega
   have hst:=run_storeCells_at P b (o+j) t' news 0 cs.toArray w s5 (by simpa using hfit) (V0 hni);simp only[Hf,O6]at hst;have hadd:(⟨b,o,none⟩:Addr).add j=⟨b,o+j,none⟩:=by unfold Addr.add;split<;>simp_all
   refine⟨.slice (some ⟨b,o,none⟩) (j+i) cap,v,_,Xr hp hno hnv s3 (cs:=cs.take (o+j)++news++cs.drop (o+j+news.length)) ?_ (Jh (Jh (λx hx=>s7 x (_root_.Fd hx)) hni) (λx hx=>s7 x (Fu hx))) ⟨_,cap,rfl,hroom,s2,.inr ⟨b,o,sz,rfl,s3,s4⟩⟩ ?_⟩
   ·simp only[Bh,HO,ID];omega
   ·have hcl:=hs.cells;rw[hi4]at hcl;rcases hs.kind with⟨e',hk⟩|hk<;>simp[Builtin.append_,run_underlying u1,run_underlying hk,sizeOf,typeInfo,i1,hs.len,hroom,hcl,hi4,hadd,hst]
  ·have hint:ints k ((cs.drop o).take j):=λx hx=>s7 x (Fu (_root_.Fd hx));exact grow hint s8 V (by omega) (run_firstCells_some w.drew inf.size j ⟨b,o,none⟩ j cap _ (by rw[hi4,s8];omega) (by simpa using s9))
end
section
variable{P:Program}{T:Ar}{X:Cx}{nt:Nat}{v v':Val}{st st':St}{a:Act}{w w':World}
def Sr(ty:Nat->Option TI)(st:St)(k:IntKind)(t:Nat)(x y:SC):Option (EV×St):=
 match ty t,x,y with
 |some ti,.int _ n,.int _ c=>match ti.d with
  | .slice el=>match ty el with
   |some te=>match Oh k te.zero&&Nat.beq te.size 1&&Nat.blt 0 te.bytes&&BF st.facts CD n&&BF st.facts CD (.sub c n)&&BF st.facts CD (.sub (.k ((140737488355328/te.bytes:Nat):Int)) c)with
    |true=>some (.sc (.ar k n),st)
    |false=>none
   |none=>none
  |_=>none
 |_,_,_=>none
variable{vy vx:Value}{ev:EV}{y x:SC}{t:Nat}{k:IntKind}{ty:Nat->Option TI}
theorem Aev(hty:CB P ty)(hp:Hp T X v st w)(h:Sr ty st k t x y=some (ev,st'))(hx:DC T v x vx)(hxo:x.ok st.next=true)(hy:DC T v y vy):
 ∃z v' w',MGo P T X v st w (Instr.makeSlice t vx vy) ev st' z v' w':=by
 unfold Sr at h;split at h;rotate_left
 ·cases h
 rename_i ti k1 n k2 c hti;split at h;rotate_left
 ·cases h
 rename_i el hd1;have u1:=(hty _ _ hti).d;rw[hd1]at u1;split at h;rotate_left
 ·cases h
 rename_i te hte;have I:=hty _ _ hte;split at h<;>cases h;rename_i hb;simp only[Aq]at hb;obtain⟨⟨⟨⟨⟨hz,hsz⟩,hby⟩,q1⟩,q2⟩,q3⟩:=hb;have hz:=Xh hz;have hsz:=AH hsz;have hby:0<te.bytes:=by simpa[A_]using hby
 have q1:=BU hp.facts _ _ q1;have q2:=BU hp.facts _ _ q2;have q3:=BU hp.facts _ _ q3;simp only[LE.sub_ev,LE.k_ev]at q2 q3;obtain⟨rfl,_⟩:=hx;obtain⟨rfl,_⟩:=hy;obtain⟨inf,z,i1,i2,i3,i4,i5⟩:=I.info;have hzc:z.cells=#[.int k 0]:=by rw[i3,hz]
 have hc0:0<=c.ev v.ρ:=by omega
 obtain⟨cn,hcn⟩:∃cn:Nat,c.ev v.ρ=cn:=⟨_,(Ma hc0).symm⟩;obtain⟨nn,hnn⟩:∃nn:Nat,n.ev v.ρ=nn:=⟨_,(Ma q1).symm⟩;have hbound:cn*te.bytes<=140737488355328:=by
  have h1:cn<=140737488355328/te.bytes:=by omega
  exact AX (EL _ h1) (RE _ _)
 have hnm:cn<=maxLen:=by
  have:cn*1<=cn*te.bytes:=IJ _ hby;simp only[maxLen];omega
 have hb2:(inf.bytes:Int)*(cn:Int)<=281474976710656:=by
  have:((te.bytes*cn:Nat):Int)<=281474976710656:=by rw[HU];omega
  rw[i5];simpa using this
 have hr:=Go.run_make (P:=P) w t el inf z u1 i1 i2 k1 k2 (n.ev v.ρ) (c.ev v.ρ) q1 (by omega) (by rw[hcn];exact hb2) (by simp only[maxLen]at hnm;omega);rw[hcn,hnn,Do,Do,i4,hsz,JJ]at hr;rw[hcn,hnn];have hm:=Ars hzc cn;obtain⟨v',H⟩:=R1 hp (n:=n) hxo (j:=nn) (cap:=cn) (t:=el) hnn (cs:=(madeCells z.cells cn).toList) hm.2 hm.1 (by omega) hnm (d:=w.drawn) (s:=Instr.makeSlice t (.int k1 nn) (.int k2 cn)) (by
  rw[hr])
 exact⟨_,v',_,H⟩
def Sv(ty:Nat->Option TI)(st:St)(k:IntKind)(t u:Nat)(x y:SC):Option (EV×St):=
 match ty t,ty u with
 |some ti,some ui=>match ti.d,ui.d with
  | .slice el,.int _=>match ty el with
   |some te=>match KR k x,y with
    |some n,.int _ m=>match Oh k te.zero&&Nat.beq te.size 1&&Nat.blt 0 te.bytes&&BF st.facts CD m&&BF st.facts CD (.sub (.k ((140737488355328/te.bytes:Nat):Int)) (.add n m))with
     |true=>some (.sc (.ar k (.add n m)),st)
     |false=>none
    |_,_=>none
   |none=>none
  |_,_=>none
 |_,_=>none
theorem Aex(hty:CB P ty)(hp:Hp T X v st w){u ot:Nat}(h:Sv ty st k t u x y=some (ev,st'))(hx:DC T v x vx)(hxo:x.ok st.next=true)(hy:DC T v y vy)(hyo:y.ok st.next=true):
 ∃z v' w',MGo P T X v st w (Builtin.append_ #[t,u] ot #[vx,vy]) ev st' z v' w':=by
 unfold Sv at h;split at h;rotate_left
 ·cases h
 rename_i ti ui hti hui;split at h;rotate_left
 ·cases h
 rename_i el kk hd1 hd2;have u1:=(hty _ _ hti).d;rw[hd1]at u1;have u2:=(hty _ _ hui).d;rw[hd2]at u2;split at h;rotate_left
 ·cases h
 rename_i te hte;have I:=hty _ _ hte;split at h;rotate_left
 ·cases h
 rename_i n k3 m hn;split at h<;>cases h;rename_i hb;simp only[Aq]at hb;obtain⟨⟨⟨⟨hz,hsz⟩,hby⟩,q1⟩,q3⟩:=hb;have hz:=Xh hz;have hsz:=AH hsz;have hby:0<te.bytes:=by simpa[A_]using hby
 have q1:=BU hp.facts _ _ q1;have q3:=BU hp.facts _ _ q3;obtain⟨no,j,hj,hvx⟩:=OR hn hx hxo;obtain⟨rfl,_⟩:=hy;obtain⟨i,hi⟩:∃i:Nat,m.ev v.ρ=i:=⟨_,(Ma q1).symm⟩;rw[hi];simp only[LE.sub_ev,LE.k_ev,LE.add_ev,hj,hi]at q3;have hbound:(j+i)*te.bytes<=140737488355328:=by
  have h1:j+i<=140737488355328/te.bytes:=by omega
  exact AX (EL _ h1) (RE _ _)
 have hbi:i*te.bytes<=140737488355328:=AX (EL _ (by omega)) hbound;have hnm:j+i<=maxLen:=by
  have:(j+i)*1<=(j+i)*te.bytes:=IJ _ hby;simp only[maxLen];omega
 have hno:(LE.add n m).ok st.next=true:=Mc no hyo;have hnv:(LE.add n m).ev v.ρ=(j+i:Nat):=by rw[LE.add_ev,hj,hi];omega
 obtain⟨inf,z,i1,i2,i3,i4,i5⟩:=I.info;have hzc:z.cells=#[.int k 0]:=by rw[i3,hz]
 have hsmall:j+i<=9223372036854775807:=by simp only[maxLen]at hnm;omega
 have hi4:inf.size=1:=by rw[i4,hsz]
 have hzi:=Xg hzc i;have hwrap:IntKind.i64.wrap (i:Int)=i:=Xa (by simp only[Bs,Cq,C1];omega);have hw0:IntKind.i64.wrap 0=0:=by decide
 have hneg:¬((i:Int)<0):=by omega
 have hbig:¬(281474976710656<(i:Int)*(inf.bytes:Int)):=by
  have:((i*te.bytes:Nat):Int)<=281474976710656:=by omega
  rw[i5];rw[Int.natCast_mul]at this;omega
 have grow:∀{aa:Option Addr}{cap:Nat}{olds:List Value},ints k olds->olds.length=j->vx= .slice aa j cap->j<=cap->cap<j+i->(Builtin.firstCells inf.size j (.slice aa j cap)).run P w.drew= .ok olds.toArray w.drew->
  ∃z v' w',MGo P T X v st w (Builtin.append_ #[t,u] ot #[vx,.int k3 (i:Int)]) (.sc (.ar k (.add n m))) st z v' w':=by
  intro aa cap olds ho hol hvx' hjc hlt hf;have hge:=grownCap_ge w (j+i) cap el;have hcm:grownCap w (j+i) cap el<=maxLen:=grownCap_le_maxLen w (j+i) cap el hnm;have hzz:=Xg hzc (grownCap w (j+i) cap el-(j+i));have hn':¬(j+i<=cap):=by omega
  have h63':¬(9223372036854775807<((j:Int)+(i:Int))):=by omega
  have h48':¬(281474976710656<Builtin.nextslicecap (j+i) cap*inf.bytes):=by
   have:=growslice_fits hlt (show(j+i)*inf.bytes<=_ by rw[i5];exact hbound);omega
  obtain⟨v',hm⟩:=R1 (P:=P) hp (n:=.add n m) hno (j:=j+i) (cap:=grownCap w (j+i) cap el) (t:=el) hnv (cs:=(olds++(Builtin.zeroCells z.cells i).toList)++(Builtin.zeroCells z.cells (grownCap w (j+i) cap el-(j+i))).toList)
   (by simp only[Bh,hol,hzi.2,hzz.2];omega) (Jh (Jh ho hzi.1) hzz.1) hge hcm (d:=w.drawn+1) (s:=Builtin.append_ #[t,u] ot #[vx,.int k3 (i:Int)]) (by
    have hrest:((olds++(Builtin.zeroCells z.cells i).toList)++(Builtin.zeroCells z.cells (grownCap w (j+i) cap el-(j+i))).toList).toArray=olds.toArray++Builtin.zeroCells z.cells i++Builtin.zeroCells z.cells (grownCap w (j+i) cap el-(j+i)):=DB.mp (by simp);rw[hrest,hvx'];by_cases hi0:i=0
    ·omega
    ·have hf2:=hf;rw[hi4]at hf2;simp[Builtin.append_,run_underlying u1,run_underlying u2,sizeOf,typeInfo,zeroValue,i1,i2,asInt,asIntOf,hwrap,hneg,hbig,hi4,hi0,hn',h63',h48',Question.forced,newRow,grownCap,hf2])
  exact⟨_,v',_,hm⟩
 rcases hvx.seg hp.hA with⟨rfl,rfl⟩|⟨b,o,cap,sz,cs,t',rfl,s1,s2,s3,s4,s5,s6,s7,s8,s9⟩
 ·by_cases hm0:i=0
  ·subst hm0;refine⟨.slice none 0 0,v,w,Xq hp hno hnv hvx ?_⟩;simp[Builtin.append_,run_underlying u1,run_underlying u2,sizeOf,typeInfo,i1,asInt,asIntOf,hw0];done
  ·exact grow (olds:=[]) (λx hx=>absurd hx (by simp)) V V (Ay _) (by omega) (by simp[Builtin.firstCells])
 ·by_cases hroom:j+i<=cap
  ·have hfit:o+j+(Builtin.zeroCells z.cells i).toList.length<=cs.toArray.size:=by simp only[GF];omega
   have hst:=run_storeCells_at P b (o+j) t' (Builtin.zeroCells z.cells i).toList 0 cs.toArray w s5 (by simpa using hfit) (V0 hzi.1);simp only[Hf,O6]at hst;have hadd:(⟨b,o,none⟩:Addr).add j=⟨b,o+j,none⟩:=by unfold Addr.add;split<;>simp_all
   refine⟨.slice (some ⟨b,o,none⟩) (j+i) cap,v,_,Xr hp hno hnv s3 (cs:=cs.take (o+j)++(Builtin.zeroCells z.cells i).toList++cs.drop (o+j+(Builtin.zeroCells z.cells i).toList.length)) ?_ (Jh (Jh (λx hx=>s7 x (_root_.Fd hx)) hzi.1) (λx hx=>s7 x (Fu hx))) ⟨_,cap,rfl,hroom,s2,.inr ⟨b,o,sz,rfl,s3,s4⟩⟩ ?_⟩
   ·simp only[Bh,HO,ID];omega
   ·by_cases hi0:i=0
    ·subst hi0;have hz0:Builtin.zeroCells z.cells 0=#[]:=by simp[Builtin.zeroCells]
     rw[hz0]at hst⊢;simp only[Array.toList_empty]at hst⊢;simp[Builtin.append_,run_underlying u1,run_underlying u2,sizeOf,typeInfo,i1,asInt,asIntOf,hw0,s1,hi4,hadd,hst]
    ·simp[Builtin.append_,run_underlying u1,run_underlying u2,sizeOf,typeInfo,zeroValue,i1,i2,asInt,asIntOf,hwrap,hneg,hbig,hi4,hi0,hroom,hadd,hst]
  ·have hint:ints k ((cs.drop o).take j):=λx hx=>s7 x (Fu (_root_.Fd hx));exact grow hint s8 V s1 (by omega) (run_firstCells_some w.drew inf.size j ⟨b,o,none⟩ j cap _ (by rw[hi4,s8];omega) (by simpa using s9))
def Sq(ty:Nat->Option TI)(st:St)(t:Nat)(x:SC):Option (EV×St):=
 match ty t,x with
 |some i,.ap k=>match !i.agg&&Nat.beq i.size 1 with
  |true=>some (.sc (.int k (.s st.next)),{st with facts:=GW k st.next++st.facts,rows:=[]++st.rows,pres:=[]++st.pres,rix:=[]++st.rix,next:=st.next+1})
  |false=>none
 |_,_=>none
theorem Aeu(hty:CB P ty)(hp:Hp T X v st w)(h:Sq ty st t x=some (ev,st'))(hx:DC T v x vx):
 ∃z v' w',MGo P T X v st w (Instr.loadAt t vx) ev st' z v' w':=by
 unfold Sq at h;split at h;rotate_left
 ·cases h
 rename_i i k hti;split at h<;>cases h;rename_i hb;simp only[Aq,JF]at hb;have u:=(hty _ _ hti).ty;rw[hb.1]at u;obtain⟨b,o,sz,rfl,h1,h2⟩:=hx;obtain⟨cs,t',h3,h4,h5⟩:=hp.hA b k sz h1;obtain⟨y,hy⟩:∃y,cs[o]? =some y:=⟨_,Bm (by omega)⟩;obtain⟨n,rfl,hn⟩:=h5 y (BA hy);have hcell:w.cell? ⟨b,o,none⟩=some (.int k n):=by
  unfold World.cell?;simp[h3,hy]
 have hl:=Ai u hcell;let v1:=v.ints st.next [n];have hext:Ext st.next v v1:=E6 _ _ _;have e0:v1.ρ st.next=n:=by simp[v1,Val.ints]
 have H:=hp.pure hext rfl rfl (GW k st.next) [] [] [] (st.next+1) (by omega)
  (Q7 (by rw[e0];exact hn)) (Wj (Cb _)) (by simp) (by simp) (by simp)
 refine⟨_,v1,w,by simpa[Instr.loadAt,Instr.sureAddr]using hl,hext,Mk _,rfl,H,?_,by simp[EV.ok,SC.ok,LE.s,LE.ok,Bq,A_],λ_ _ _ _=>rfl⟩;show DC T v1 (.int k (.s st.next)) _;simp only[DC,LE.s_ev,e0];exact⟨trivial,hn⟩
def Ss(ty:Nat->Option TI)(st:St)(s t:Nat)(x:SC):Option (EV×St):=
 match ty s,ty t with
 |some si,some ti=>match si.d,ti.d,KR .u8 x with
  | .slice el,.str,some n=>match ty el with
   |some te=>match te.d with
    | .int .u8=>some (.sc (.str n),st)
    |_=>none
   |none=>none
  |_,_,_=>none
 |_,_=>none
theorem Aew(hty:CB P ty)(hp:Hp T X v st w){s:Nat}(h:Ss ty st s t x=some (ev,st'))(hx:DC T v x vx)(hxo:x.ok st.next=true):
 ∃z v' w',MGo P T X v st w (convert s t vx) ev st' z v' w':=by
 unfold Ss at h;split at h;rotate_left
 ·cases h
 rename_i si ti hsi hti;split at h;rotate_left
 ·cases h
 rename_i el n hd1 hd2 hn;split at h;rotate_left
 ·cases h
 rename_i te hte;split at h<;>cases h;rename_i hd3;have u1:=(hty _ _ hsi).d;rw[hd1]at u1;have u2:=(hty _ _ hti).d;rw[hd2]at u2;have u3:=(hty _ _ hte).d;rw[hd3]at u3;obtain⟨no,j,hj,hvx⟩:=OR hn hx hxo;have fin:∀{z:ByteArray},(convert s t vx).run P w= .ok (.string z) w->z.size=j->j<=maxLen->∃z v' w',MGo P T X v st w (convert s t vx) (.sc (.str n)) st z v' w':=by
  intro z hr hz hm;refine⟨_,v,w,hr,Ext.refl _ _,Ay _,rfl,hp,⟨z,rfl,?_,by omega⟩,no,λ_ _ _ _=>rfl⟩;rw[hj,hz]
 rcases hvx.seg hp.hA with⟨rfl,rfl⟩|⟨b,o,cap,sz,cs,t',rfl,s1,s2,s3,s4,s5,s6,s7,s8,s9⟩
 ·exact fin (run_convert_bytes_nil w s el u1 u3 0 0 t u2) (by simp) (AW _)
 ·have key:∀{cs:List Value},ints .u8 cs->∃xs:List Int,cs=xs.map (Value.int .u8):=by
   intro cs;induction cs with
   |nil=>intro _;exact⟨[],rfl⟩
   |cons c cs ih=>
    intro hc;obtain⟨m,rfl,_⟩:=hc c (by simp);obtain⟨xs,rfl⟩:=ih λx hx=>hc x (by simp[hx]);exact⟨m::xs,rfl⟩
  obtain⟨xs,hxs⟩:=key (show ints .u8 ((cs.drop o).take j)fromλx hx=>s7 x (Fu (_root_.Fd hx)));have hxl:xs.length=j:=by rw[hxs]at s8;simpa using s8
  refine fin (run_convert_bytes_arg w s el u1 u3 b o j cap xs hxl (λi hi=>?_) t u2) (by rw[strOfNums_size,hxl]) (by omega);have hadd:(⟨b,o,none⟩:Addr).add i=⟨b,o+i,none⟩:=by unfold Addr.add;split<;>simp_all
  have:=s9 i (.int .u8 (xs.getD i 0)) (by
   rw[hxs,Mg,List.getD_eq_getElem?_getD];have:xs[i]? =some xs[i]:=Bm (by omega);simp[this])
  rw[hadd]at this;exact this
def PW:List (Nat×Nat×Nat)->Nat->Option (Nat×Nat)
 |[],_=>none
 |(j,t,o)::r,i=>match Nat.beq j i with
  |true=>some (t,o)
  |false=>PW r i
theorem Zw:∀{l:List (Nat×Nat×Nat)}{i:Nat}{q:Nat×Nat},PW l i=some q->(i,q)∈l
 |(j,t,o)::r,i,q,h=>by
  simp only[PW]at h;split at h
  ·rename_i hb;cases h;rw[AH hb];exact E4
  ·exact Ft _ (Zw h)
def Vs(ty:Nat->Option TI)(s:Nat)(x:EV)(f:Nat):Option EV:=
 match ty s,x with
 |some si,.agg l=>match PW si.ft f with
  |some (t,o)=>match ty t with
   |some ti=>match ti.agg with
    |true=>match Nat.ble (o+ti.size) l.length with
     |true=>some (.agg ((l.drop o).take ti.size))
     |false=>none
    |false=>match l[o]? with
     |some c=>some (.sc c)
     |none=>none
   |none=>none
  |none=>none
 |_,_=>none
theorem An0(hty:CB P ty)(hp:Hp T X v st w){s f:Nat}{x:EV}(h:Vs ty s x f=some ev)(hx:DE T v x vx)(hxo:x.ok st.next=true):
 ∃z,MGo P T X v st w (Instr.field s vx f) ev st z v w:=by
 unfold Vs at h;split at h;rotate_left
 ·cases h
 rename_i si l hsi;split at h;rotate_left
 ·cases h
 rename_i t o hft;obtain⟨fields,fd,g1,g2,g3,g4⟩:=(hty _ _ hsi).fts _ (Zw hft);simp only at g2 g3 g4;split at h;rotate_left
 ·cases h
 rename_i ti hti;have u:=(hty _ _ hti).ty;obtain⟨cs,rfl,hcs⟩:=hx;have hlo:∀c∈l,c.ok st.next=true:=by
  simp only[EV.ok,Bg]at hxo;exact hxo
 split at h
 ·rename_i ha;rw[ha]at u;split at h<;>cases h;rename_i hb;have hb:=CK hb;rw[hcs.length]at hb;refine⟨.agg ((cs.drop o).take ti.size).toArray,?_,Ext.refl _ _,Ay _,rfl,hp,⟨_,rfl,(hcs.drop o).take _⟩,?_,λ_ _ _ _=>rfl⟩
  ·simp[Instr.field,run_underlying g1,g2,asAgg,part,g3,g4,u.agg,u.size]
  ·show List.all _ _=true;simp only[Bg];exactλc hc=>hlo c (Fu (_root_.Fd hc))
 ·rename_i ha;rw[ha]at u;split at h<;>cases h;rename_i c hc;obtain⟨y,h1,h2⟩:=hcs.get hc;refine⟨y,?_,Ext.refl _ _,Ay _,rfl,hp,h2,hlo c (BA hc),λ_ _ _ _=>rfl⟩;simp[Instr.field,run_underlying g1,g2,asAgg,part,g3,g4,u.agg,u.size,h1]
end
end Go.Ck