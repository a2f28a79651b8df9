import Derived.Test.YtdldhfocpandoaaGreatCkB
noncomputable section
set_option maxHeartbeats 8000000
set_option maxRecDepth 8000
namespace Go.Ck
open Go.Sx
section
variable{P:Program}{T:Ar}{X:Cx}{nt:Nat}{v v':Val}{st st':St}{a:Act}{w w':World}
variable{x:Value}
theorem Ye{t u ty e:TypeId}{i:TypeInfo}{z:Value}{size bytes:Nat}(ht:P.underlying t=some (.slice e))(hi:P.info? e=some i)(hz:i.zero=some z)
 (hsize:i.size=size) (hby:i.bytes=bytes) (hzs:z.cells.size=size)
 {v:Value}{n:Nat}{xs:List Value} (hown:w.ownsRow 0 e size v n xs) {m:Nat}{news:List Value} (hs:Src P size u x m news w)
 (h63:n+m<=maxLen) (hbytes:(n+m)*bytes<=140737488355328):
 ∃v' w',(Builtin.append_ #[t,u] ty #[v,x]).run P w= .ok v' w'/\w'.ownsRow 0 e size v' (n+m) (xs++news)/\
  ((w.grownBy w' v.ownBlock/\v'.ownBlock=v.ownBlock)\/(w.grownBy w' none/\v'.ownBlock=some w.heap.size)):=by
 subst hsize hby;have hsmall:n+m<=9223372036854775807:=by simp only[maxLen]at h63;omega
 have hl:=hs.newsLen;have hlen:(xs++news).length=(n+m)*i.size:=by rw[Bh,hown.1,hl,Dq]
 have grown:∀(old:Nat),old<n+m->
  (w.drew.alloc (.cells ((xs++news).toArray++Builtin.zeroCells z.cells (grownCap w (n+m) old e-(n+m))) e)).ownsRow 0 e i.size
   (.slice (some ⟨w.heap.size,0,none⟩) (n+m) (grownCap w (n+m) old e)) (n+m) (xs++news)/\
  ∀row,w.grownBy (w.drew.alloc (.cells ((xs++news).toArray++Builtin.zeroCells z.cells (grownCap w (n+m) old e-(n+m))) e)) row:=by
  intro old ho;have hge:=grownCap_ge w (n+m) old e;have hcm:grownCap w (n+m) old e<=maxLen:=grownCap_le_maxLen w (n+m) old e h63;refine⟨⟨hlen,.inr ⟨w.heap.size,_,_,rfl,AW _,heap_alloc_new w.drew _,hge,hcm,?_,?_⟩⟩,λrow=>⟨rfl,rfl,rfl,by simp,λk hk _=>heap_alloc_old w.drew _ k hk⟩⟩
  ·simp only[Array.size_append,GF,size_zeroCells,hzs,hlen,<-Dq];congr 1;omega
  ·simp only[Array.toList_append];rw[<-hlen];exact HP
 rcases hown.2 with⟨rfl,rfl⟩|⟨g,cap,cur,rfl,hbg,hg,hnc,hcm,hcs,htake⟩
 ·have hx:xs=[]:=E2 (by simpa using hown.1);subst hx;by_cases hm:m=0
  ·subst hm;have hn:news=[]:=E2 (by simpa using hl);subst hn;refine⟨.slice none 0 0,w,?_,World.ownsRow_nil w 0 e i.size,.inl ⟨⟨rfl,rfl,rfl,Ay _,λ_ _ _=>rfl⟩,rfl⟩⟩;rcases hs.kind with⟨e',hk⟩|hk<;>simp[Builtin.append_,run_underlying ht,run_underlying hk,sizeOf,typeInfo,hi,hs.len,hs.cells]
  ·have hr:=run_append_grow_src (P:=P) w t u ty e i z ht hi hz none 0 0 [] (by simp[Builtin.firstCells]) x m news hs (by omega) (by omega) (growslice_fits (by omega) hbytes);have hgr:=grown 0 (by omega);exact⟨_,_,hr,hgr.1,.inr ⟨hgr.2 _,rfl⟩⟩
 ·by_cases hroom:n+m<=cap
  ·have hfit:n*i.size+news.length<=cur.size:=by rw[hl,hcs,<-Dq];exact EL _ hroom
   have hst:=run_storeCells_at P g (n*i.size) e news 0 cur w hg (by simpa using hfit) hs.one;simp only[Hf]at hst;refine⟨.slice (some ⟨g,0,none⟩) (n+m) cap,w.setRow g (cur.toList.take (n*i.size)++news++cur.toList.drop (n*i.size+news.length)).toArray,?_,
    ⟨hlen,.inr ⟨g,cap,_,rfl,hbg,setRow_heap w g cur _ e _ hg,hroom,hcm,?_,?_⟩⟩,.inl ⟨⟨rfl,rfl,rfl,by simp,λk _ hk=>setRow_other w g k _ (λe=>hk (by simp[Value.ownBlock,e]))⟩,rfl⟩⟩
   ·rcases hs.kind with⟨e',hk⟩|hk<;>simp[Builtin.append_,run_underlying ht,run_underlying hk,sizeOf,typeInfo,hi,hs.len,hroom,hs.cells,Addr.add_lit,hst]
   ·simp only[GF,Bh,HO,ID,FH];omega
   ·rw[htake,<-hlen];exact HP
  ·have holds:∀j u,xs[j]? =some u->w.drew.cell? ((⟨g,0,none⟩:Addr).add j)=some u:=by simpa using hown.cells (g:=g) rfl
   have hr:=run_append_grow_src (P:=P) w t u ty e i z ht hi hz (some ⟨g,0,none⟩) n cap xs (run_firstCells_some w.drew i.size n ⟨g,0,none⟩ n cap xs hown.1 holds) x m news hs (by omega) (by omega) (growslice_fits (by omega) hbytes);have hgr:=grown cap (by omega);exact⟨_,_,hr,hgr.1,.inr ⟨hgr.2 _,rfl⟩⟩
theorem RepR.cells{M:AT}{A:AV}:∀{r:List CV}{ts:List CT}{b o:Nat},RepR T M A r ts b o->∃cs:List Value,cs.length=ts.length/\∀j x,cs[j]? =some x->M b (o+j)=some x
 |[],[],_,_,_=>⟨[],rfl,by simp⟩
 |c::r,t::ts,b,o,h=>by
  simp only[RepR]at h;obtain⟨⟨x,h1,_⟩,h3⟩:=h;obtain⟨cs,h4,h5⟩:=RepR.cells h3;refine⟨x::cs,by simp[h4],?_⟩;intro j y hj;cases j with
  |zero=>simp at hj;subst hj;exact h1
  |succ j=>
   simp at hj;have:=h5 j y hj;rwa[show o+(j+1)=o+1+j from by omega]
 |[],_::_,_,_,h=>by simp only[RepR]at h
 |_::_,[],_,_,h=>by simp only[RepR]at h
theorem RepL.cells{M:AT}{A:AV}{e:Nat}:∀{l:List (List CV)}{b o j:Nat},RepL T M A l e b o j->∃cs:List Value,cs.length=l.length*(T e).cells.length/\∀i x,cs[i]? =some x->M b (o+i)=some x
 |[],_,_,_,_=>⟨[],by simp,by simp⟩
 |r::l,b,o,j,h=>by
  simp only[RepL]at h;obtain⟨c1,h1,h2⟩:=RepR.cells h.1;obtain⟨c2,h3,h4⟩:=RepL.cells h.2.2;refine⟨c1++c2,by simp[h1,h3,Dq];omega,?_⟩;intro i x hi;by_cases hlt:i<c1.length
  ·rw[GD hlt]at hi;exact h2 i x hi
  ·rw[Me (by omega)]at hi;have:=h4 _ x hi;rwa[show o+(T e).cells.length+(i-c1.length)=o+i from by omega]at this
variable{sz u:Nat}
theorem Src.frozen(hp:Hp T X v st w){e' n cap b o:Nat}(hu:P.underlying u=some (.slice e')){cs:List Value}(hl:cs.length=n*sz)(hc:∀j x,cs[j]? =some x->v.M b (o+j)=some x):
 Src P sz u (.slice (some ⟨b,o,none⟩) n cap) n cs w where
 kind:=.inl ⟨e',hu⟩
 len:=λw'=>by simp[Builtin.lenOf]
 cells:=run_firstCells_some w sz n ⟨b,o,none⟩ n cap cs hl (λj x hj=>by rw[Addr.add_lit];exact(hp.hM _ _ _ (hc j x hj)).1)
 cellsD:=run_firstCells_some w.drew sz n ⟨b,o,none⟩ n cap cs hl (λj x hj=>by rw[Addr.add_lit];exact(hp.hM _ _ _ (hc j x hj)).1)
 newsLen:=hl
 one:=λx hx=>by
  obtain⟨j,hj⟩:=Mh hx;exact(hp.hM _ _ _ (hc j x hj)).2.2
theorem Src.none{u e' n sz:Nat}(hu:P.underlying u=some (.slice e')){a:Option Addr}{cap:Nat}(h0:n=0):Src P sz u (.slice a n cap) n [] w where
 kind:=.inl ⟨e',hu⟩
 len:=λw'=>by simp[Builtin.lenOf]
 cells:=by
  subst h0;cases a with
  |none=>simp[Builtin.firstCells]
  |some a=>exact run_firstCells_some w sz 0 a 0 cap [] (by simp) (by simp)
 cellsD:=by
  subst h0;cases a with
  |none=>simp[Builtin.firstCells]
  |some a=>exact run_firstCells_some w.drew sz 0 a 0 cap [] (by simp) (by simp)
 newsLen:=by simp[h0]
 one:=by simp
def Val.own0(v:Val)(k:Nat)(ρ:Nat->Int)(lv:LV):Val:=
 {v with ρ:=λi=>if i<k then v.ρ i else ρ i,δ:=λi=>if i<k then v.δ i else lv,β:=λi=>if i<k then v.β i else none}
variable{fs:List LE}{e:Nat}
theorem Hp.own0(hp:Hp T X v st w){t:Nat}{ne:LE}(ρ:Nat->Int)(lv:LV)(hg:w.grownBy w' none){own':List (Nat×Nat×Nat×LE)}(hown:∀p∈own',p∈st.own){nx:Nat}(hnx:st.next<nx)(hne:ne.ok nx=true)
  (hf:Holds (v.own0 st.next ρ lv).ρ fs) (hfo:∀f∈fs,f.ok nx=true) {ms:List (Nat×List LE)} (hms:∀p∈ms,MaxOK (v.own0 st.next ρ lv) p/\Gy nx p=true):
 Ext st.next v (v.own0 st.next ρ lv)/\Hp T X (v.own0 st.next ρ lv) {st with own:=(st.next,t,e,ne)::own',facts:=fs++st.facts,maxs:=ms++st.maxs,next:=nx} w':=by
 have hx:Ext st.next v (v.own0 st.next ρ lv):=
  ⟨λi hi=>by simp[Val.own0,hi],λi hi=>by simp[Val.own0,hi],λi hi=>by simp[Val.own0,hi],λ_ _=>rfl,λ_ _ _ h=>h,λ_ _ h=>h⟩
 have hsame:∀c,c<w.heap.size->w'.heap[c]? =w.heap[c]? :=λc hc=>hg.block c hc (by simp);refine⟨hx,hp.step hx (HR hnx) hf hfo hms ?_ ?_ ?_ ?_ ?_ ?_ ?_ ?_⟩
 ·exact hp.fra.step hg.os hg.tape hg.output hg.size (λb hb=>.inl (hsame b hb)) (λ_ _ _ h=>.inl h) (λ_ _ h=>.inl h)
 ·intro b o x h;have:=hp.hM b o x h;exact⟨by rw[GM (hsame b (hp.M_lt h))];exact this.1,this.2⟩
 ·intro b k sz h;obtain⟨c,t',h1,h2⟩:=hp.hA b k sz h;exact⟨c,t',by rw[hsame b (hp.A_lt (b:=(0,0)) (k:=(0,0)) (sz:=(0,0)) h)];exact h1,h2⟩
 ·intro p hm;refine⟨(hp.mem p hm).1.keep hx (hp.mem p hm).2 λb hb=>⟨hsame b (hp.mem_lt hm hb),?_⟩,N5 (HR hnx) (hp.mem p hm).2⟩;obtain⟨b',cs',h1,_,_,_,h5,h6,_⟩:=(hp.mem p hm).1;rw[h1]at hb;cases hb;exact⟨h5,h6⟩
 ·intro p hm;rcases Ao.1 hm with rfl|hm
  ·refine⟨.inl (by simp[Val.own0]),?_⟩;simp only[DA,Aq,A_];exact⟨hnx,hne⟩
  ·have hm:=hown p hm;refine⟨(hp.own p hm).1.keep hx (hp.own p hm).2 λb hb=>⟨hsame b (hp.own_lt hm hb),λ_ _ h=>h,?_⟩,Ks (HR hnx) (hp.own p hm).2⟩;rcases(hp.own p hm).1 with h1|⟨b',cs',h1,_,_,_,_,_,h7,_⟩
   ·rw[h1]at hb;cases hb
   ·rw[h1]at hb;cases hb;exact h7
 ·intro p hm q hq b h1 h2;have k1:=(hp.mem p hm).2;have k2:=(hp.mem q hq).2;simp only[C6,Aq,A_]at k1 k2;rw[hx.β _ k1.1]at h1;rw[hx.β _ k2.1]at h2;exact hp.memU p hm q hq b h1 h2
 ·intro p hm q hq b h1 h2;have knew:(v.own0 st.next ρ lv).β st.next=none:=by simp[Val.own0]
  rcases Ao.1 hm with rfl|hm<;>rcases Ao.1 hq with rfl|hq
  ·rfl
  ·simp only[knew]at h1;cases h1
  ·simp only[knew]at h2;cases h2
  ·have k1:=(hp.own p (hown p hm)).2;have k2:=(hp.own q (hown q hq)).2;simp only[DA,Aq,A_]at k1 k2;rw[hx.β _ k1.1]at h1;rw[hx.β _ k2.1]at h2;exact hp.ownU p (hown p hm) q (hown q hq) b h1 h2
 ·intro p hm q hq b h1;have k1:=(hp.mem p hm).2;simp only[C6,Aq,A_]at k1;rw[hx.β _ k1.1]at h1;have knew:(v.own0 st.next ρ lv).β st.next=none:=by simp[Val.own0]
  rcases Ao.1 hq with rfl|hq
  ·simp only[knew];simp
  ·have k2:=(hp.own q (hown q hq)).2;simp only[DA,Aq,A_]at k2;rw[hx.β _ k2.1];exact hp.moU p hm q (hown q hq) b h1
def Sl(T:Ar)(e:Nat):SC->Option (LE×LE×List LE)
 | .nil=>some (.k 0,.k 0,[])
 | .fz e2 _ n m d _=>match I2 T e2 e with
  |true=>some (n,m,[d])
  |false=>none
 |_=>none
def Sj(st:St)(el e:Nat):SC->Option (LE×LE×List LE×List (Nat×Nat×Nat×LE))
 | .nil=>some (.k 0,.k 0,[],st.own)
 | .fz e1 _ n m d (some g)=>match Ck.get st.own g with
  |some (el',e',n')=>match Nat.beq e1 e&&Nat.beq el' el&&Nat.beq e' e&&LE.eqb n' n with
   |true=>some (n,m,[d],FA st.own g)
   |false=>none
  |none=>none
 |_=>none
def Sk(T:Ar)(ty:Nat->Option TI)(st:St)(e t u:Nat)(x y:SC):Option (EV×St):=
 match ty t,ty u with
 |some ti,some ui=>match ti.d,ui.d with
  | .slice el,.slice _=>match ty el with
   |some te=>match Nat.beq te.size (T e).cells.length&&Kq (T e).inv&&Nat.blt 0 te.bytes with
    |true=>match Sj st el e x,Sl T e y with
     |some (n1,m1,d1,own'),some (n2,m2,d2)=>
      match BF st.facts CD (.sub (.k (140737488355328/te.bytes:Nat)) (.add n1 n2))with
      |true=>some (.sc (.fz e st.next (.add n1 n2) (.add m1 m2) (.s (st.next+1)) (some st.next)),
       {st with own:=(st.next,el,e,.add n1 n2)::own',facts:=[.s (st.next+1)]++st.facts,maxs:=[(st.next+1,d1++d2)]++st.maxs,next:=st.next+2})
      |false=>none
     |_,_=>none
    |false=>none
   |none=>none
  |_,_=>none
 |_,_=>none
theorem Aes(hp:Hp T X v st w){e':Nat}(hu:P.underlying u=some (.slice e'))(hsz:sz=(T e).cells.length){y:SC}{n m:LE}{d:List LE}(h:Sl T e y=some (n,m,d)){vy:Value}(hy:DC T v y vy)(hyo:y.ok st.next=true):
 ∃(l:List (List CV)) (news:List Value),n.ev v.ρ=l.length/\m.ev v.ρ=Az T l e/\(Bi T l e<=0\/∃q∈d,Bi T l e<=q.ev v.ρ)/\Src P sz u vy l.length news w/\n.ok st.next=true/\m.ok st.next=true/\(∀q∈d,q.ok st.next=true)/\
  (l=[]\/∃b o,RepL T v.M v.A l e b o 0/\∀j x,news[j]? =some x->v.M b (o+j)=some x):=by
 unfold Sl at h;split at h
 ·cases h;cases hy;exact⟨[],[],by simp,by simp[Az],.inl (by simp[Bi]),Src.none hu V,rfl,rfl,by simp,.inl V⟩
 ·rename_i e2 i n' m' d' o;split at h<;>cases h;rename_i hs;simp only[SC.ok,Aq]at hyo;obtain⟨h1,⟨aa,cap,rfl,h2,h3⟩,h4,h5,h6,_⟩:=hy;have hlc:=(QF hs).1;rcases h3 with h3|⟨rfl,h7,h8,h9⟩
  ·refine⟨(v.δ i).l,[],h4,by rw[h5,J7 hs],.inl (by rw[h3];simp[Bi]),Src.none hu (by rw[h3];rfl),hyo.1.1.1.2,hyo.1.1.2,?_,.inl h3⟩;intro q hq;simp at hq;subst hq;exact hyo.1.2
  ·rw[h1]at h9;have h9':=NW hs h9;obtain⟨cs,hc1,hc2⟩:=RepL.cells h9';refine⟨(v.δ i).l,cs,h4,by rw[h5,J7 hs],.inr ⟨_,DT.2 V,by rw[h6,NX hs];exact JG _⟩,Src.frozen hp hu (by rw[hc1,hsz]) hc2,hyo.1.1.1.2,hyo.1.1.2,?_,.inr ⟨_,_,h9',hc2⟩⟩;intro q hq;simp at hq;subst hq;exact hyo.1.2
 ·cases h
theorem Aeq(hp:Hp T X v st w){el:Nat}(hsz:sz=(T e).cells.length){x:SC}{n m:LE}{d:List LE}{own':List (Nat×Nat×Nat×LE)}(h:Sj st el e x=some (n,m,d,own')){vx:Value}(hx:DC T v x vx)(hxo:x.ok st.next=true):
 ∃(l:List (List CV)) (xs:List Value),n.ev v.ρ=l.length/\m.ev v.ρ=Az T l e/\(Bi T l e<=0\/∃q∈d,Bi T l e<=q.ev v.ρ)/\w.ownsRow 0 el sz vx l.length xs/\n.ok st.next=true/\m.ok st.next=true/\(∀q∈d,q.ok st.next=true)/\
  (∀p∈own',p∈st.own/\∀b,vx.ownBlock=some b->v.β p.1≠some b)/\
  (∀b,vx.ownBlock=some b->b<w.heap.size/\v.A b=none/\(∀p∈st.mem,v.β p.1≠some b)/\(X.B b\/X.w0.heap.size<=b)/\∀o y,v.M b o=some y->o<l.length*sz/\xs[o]? =some y)/\
  (l=[]\/∃b o,RepL T v.M v.A l e b o 0/\∀j y,xs[j]? =some y->v.M b (o+j)=some y):=by
 unfold Sj at h;split at h
 ·cases h;cases hx;exact⟨[],[],by simp,by simp[Az],.inl (by simp[Bi]),World.ownsRow_nil _ _ _ _,rfl,rfl,by simp,λp hp=>⟨hp,λb hb=>by simp[Value.ownBlock]at hb⟩,λb hb=>by simp[Value.ownBlock]at hb,.inl V⟩
 ·rename_i e1 i n' m' d' g;split at h
  ·rename_i el' e' nn hg;split at h<;>cases h;rename_i hb;simp only[Aq]at hb;have b1:=AH hb.1.1.1;have b2:=AH hb.1.1.2;have b3:=AH hb.1.2;have b4:=Dp hb.2;subst b1 b2 b3 b4;simp only[SC.ok,Aq]at hxo;obtain⟨h1,⟨aa,cap,rfl,h2,h3⟩,h4,h5,h6,h7⟩:=hx;have hoa:=h7 g rfl;have hm:=Eh hg;have hok:=hp.own _ hm;have hd:∀q∈[d'],q.ok st.next=true:=by intro q hq;simp at hq;subst hq;exact hxo.1.2
   have hdd:Bi T (v.δ i).l e'<=0\/∃q∈[d'],Bi T (v.δ i).l e'<=q.ev v.ρ:=.inr ⟨d',by simp,by rw[h6];exact JG _⟩;cases hβ:v.β g with
   |none=>
    rw[hβ]at hoa;simp only[RK,Value.slice.injEq]at hoa;obtain⟨rfl,hl0,rfl⟩:=hoa;have hl:(v.δ i).l=[]:=E2 hl0;refine⟨(v.δ i).l,[],h4,h5,hdd,by rw[hl];exact World.ownsRow_nil _ _ _ _,hxo.1.1.1.2,hxo.1.1.2,hd,λp hp'=>⟨(DJ hp').1,λb hb=>by simp[Value.ownBlock]at hb⟩,λb hb=>by simp[Value.ownBlock]at hb,.inl hl⟩
   |some b=>
    rw[hβ]at hoa;simp only[RK,Value.slice.injEq]at hoa;obtain⟨_,rfl,_,hcap⟩:=hoa;rcases hok.1 with h0|⟨b',cs,e1',e2,e3,e4,e5,e6,e7,e8⟩
    ·simp only at h0;rw[hβ]at h0;cases h0
    ·simp only at e1' e2 e3 e4 e5 e6;rw[hβ]at e1';cases e1';subst hcap;have hnl:(v.δ i).l.length<=(v.κ g).1:=by omega
     have hle:(v.δ i).l.length*sz<=cs.length:=by rw[e3,hsz];exact EL _ hnl
     refine⟨(v.δ i).l,cs.take ((v.δ i).l.length*sz),h4,h5,hdd,⟨by simp;omega,.inr ⟨b,_,cs.toArray,rfl,AW _,e2,hnl,e5,by simp[e3,hsz],by simp⟩⟩,hxo.1.1.1.2,hxo.1.1.2,hd,?_,?_,?_⟩
     ·intro p hp';refine⟨(DJ hp').1,λb2 hb2=>?_⟩;simp[Value.ownBlock]at hb2;subst hb2;intro hq;exact(DJ hp').2 (hp.ownU p (DJ hp').1 _ hm b hq hβ)
     ·intro b2 hb2;simp[Value.ownBlock]at hb2;subst hb2;refine⟨e2.lt,e7,λp hp' hq=>hp.moU p hp' _ hm b hq hβ,e8,λo y hy=>?_⟩;have h8:=e6 o y hy;rw[h4,<-hsz]at h8;have h8:o<(v.δ i).l.length*sz:=by exact_mod_cast h8
      refine⟨h8,?_⟩;have h9:=(hp.hM b o y hy).1;rw[e2.cell]at h9;rw[Ea,if_pos h8];exact h9
     ·rcases h3 with h3|⟨h9,_,_,hR⟩
      ·exact .inl h3
      ·right;simp only[Option.some.injEq,Addr.mk.injEq]at h9;obtain⟨hb0,ho0,_⟩:=h9;rw[h1,<-hb0,<-ho0]at hR;refine⟨_,_,hR,λj y hj=>?_⟩;obtain⟨c2,f1,f2⟩:=RepL.cells hR;rw[Ea]at hj;split at hj
       ·rename_i hlt;have hlt2:j<c2.length:=by rw[f1,<-hsz];exact hlt
        obtain⟨z,hz⟩:∃z,c2[j]? =some z:=⟨_,Bm hlt2⟩;have f3:=f2 j z hz;have f4:=(hp.hM _ _ _ f3).1;rw[e2.cell,BO,hj]at f4;cases f4;exact f3
       ·cases hj
  ·cases h
 ·cases h
end
section
variable{P:Program}{T:Ar}{X:Cx}{nt:Nat}{v v':Val}{st st':St}{a:Act}{w w':World}
variable{u e:Nat}
theorem Aer{ty:Nat->Option TI}(hty:CB P ty)(hp:Hp T X v st w){t ot:Nat}{x y:SC}{ev:EV}(h:Sk T ty st e t u x y=some (ev,st')){vx vy:Value}(hx:DC T v x vx)(hxo:x.ok st.next=true)(hy:DC T v y vy)(hyo:y.ok st.next=true):
 ∃z v' w',MGo P T X v st w (Builtin.append_ #[t,u] ot #[vx,vy]) ev st' z v' w':=by
 unfold Sk at h;split at h
 ·rename_i ti ui hti hui;split at h
  ·rename_i el e2 hd1 hd2;have u1:=(hty _ _ hti).d;rw[hd1]at u1;have u2:=(hty _ _ hui).d;rw[hd2]at u2;split at h
   ·rename_i te hte;have I:=hty _ _ hte;split at h
    ·rename_i hb;simp only[Aq]at hb;have hsz:=AH hb.1.1;have hby:0<te.bytes:=by simpa[A_]using hb.2
     have hinv:Kq (T e).inv=true:=hb.1.2;split at h
     ·rename_i n1 m1 d1 own' n2 m2 d2 hD hS;split at h<;>cases h;rename_i hpr;obtain⟨l1,xs,a1,a2,a3,a4,a5,a6,a7,a8,a9,a10⟩:=Aeq hp hsz hD hx hxo;obtain⟨l2,news,b1,b2,b3,b4,b5,b6,b7,b8⟩:=Aes hp u2 hsz hS hy hyo;have p1:=BU hp.facts _ _ hpr;simp only[LE.sub_ev,LE.k_ev,LE.add_ev,a1,b1]at p1;have hbound:(l1.length+l2.length)*te.bytes<=140737488355328:=by
       have h1:l1.length+l2.length<=140737488355328/te.bytes:=by omega
       exact AX (EL _ h1) (RE _ _)
      have hnm:l1.length+l2.length<=maxLen:=by
       have:(l1.length+l2.length)*1<=(l1.length+l2.length)*te.bytes:=IJ _ hby;simp only[maxLen];omega
      obtain⟨inf,z,i1,i2,i3,i4,i5⟩:=I.info;have hzs:z.cells.size=te.size:=by rw[i3];simp[I.len]
      obtain⟨vz,wz,r1,r2,r3⟩:=Ye (P:=P) (ty:=ot) u1 i1 i2 i4 i5 hzs a4 b4 hnm hbound
      --symbols
      have hlen:(xs++news).length=(l1.length+l2.length)*te.size:=r2.1;have hxl:xs.length=l1.length*te.size:=a4.1;have hnl:news.length=l2.length*te.size:=b4.newsLen;have hmA:Az T (l1++l2) e=m1.ev v.ρ+m2.ev v.ρ:=by rw[Ju,a2,b2]
      have hdA:Bi T (l1++l2) e<=0\/∃q∈d1++d2,Bi T (l1++l2) e<=q.ev v.ρ:=by
       rw[Pn];rcases Ow (Bi T l1 e) (Bi T l2 e)with hle|hle
       ·rw[Int.max_eq_right hle];rcases b3 with h1|⟨q,h1,h2⟩
        ·exact .inl h1
        ·exact .inr ⟨q,by simp[h1],h2⟩
       ·rw[Int.max_eq_left hle];rcases a3 with h1|⟨q,h1,h2⟩
        ·exact .inl h1
        ·exact .inr ⟨q,by simp[h1],h2⟩
      have hdo:∀q∈d1++d2,q.ok st.next=true:=by
       intro q hq;rcases B3.1 hq with hq|hq
       ·exact a7 q hq
       ·exact b7 q hq
      have hno:(LE.add n1 n2).ok st.next=true:=Mc a5 b5;have hmo:(LE.add m1 m2).ok st.next=true:=Mc a6 b6;have hdn:=IZ T e (l1++l2);let ρ:Nat->Int:=λ_=>Bi T (l1++l2) e;have common:∀(v1:Val),(∀i,i<st.next->v1.ρ i=v.ρ i)->v1.ρ (st.next+1)=Bi T (l1++l2) e->
       (Holds v1.ρ [.s (st.next+1)])/\(∀p∈[(st.next+1,d1++d2)],MaxOK v1 p/\Gy (st.next+2) p=true)/\(LE.add n1 n2).ev v1.ρ=(l1++l2).length/\(LE.add m1 m2).ev v1.ρ=Az T (l1++l2) e:=by
       intro v1 hρ hd1';refine⟨?_,?_,?_,?_⟩
       ·intro f hf;simp only[Ao,AB,or_false]at hf;subst hf;rw[LE.s_ev,hd1'];exact hdn
       ·intro p hpm;simp only[Ao,AB,or_false]at hpm;subst hpm;refine⟨?_,?_⟩
        ·show v1.ρ (st.next+1)<=0\/∃d∈d1++d2,v1.ρ (st.next+1)<=d.ev v1.ρ;rw[hd1'];rcases hdA with h1|⟨q,h1,h2⟩
         ·exact .inl h1
         ·exact .inr ⟨q,h1,by rw[Bj hρ (hdo q h1)];exact h2⟩
        ·simp only[Gy,Aq,A_,Bg];exact⟨by omega,λd hd=>LE.ok_mono (by omega) (hdo d hd)⟩
       ·rw[Bj hρ hno,LE.add_ev,a1,b1,Bh];simp
       ·rw[Bj hρ hmo,LE.add_ev,hmA]
      have hfo:∀f∈[LE.s (st.next+1)],f.ok (st.next+2)=true:=by
       intro f hf;simp only[Ao,AB,or_false]at hf;subst hf;simp[LE.ok,LE.s,Bq,A_]
      have hok:EV.ok (st.next+2) (.sc (.fz e st.next (.add n1 n2) (.add m1 m2) (.s (st.next+1)) (some st.next)))=true:=by
       have e1:=LE.ok_mono (show st.next<=st.next+2 by omega) hno;have e2:=LE.ok_mono (show st.next<=st.next+2 by omega) hmo;simp only[EV.ok,SC.ok,e1,e2,Iw,Om];simp[LE.ok,LE.s,Bq,A_]
      --where it lies
      rcases r2.2 with⟨hz1,hz2⟩|⟨g,cap,cur,hz1,_,hz3,hz4,hz5,hz6,hz7⟩
      ·--none
       subst hz1;have hg:w.grownBy wz none:=by
        rcases r3 with⟨h1,h2⟩|⟨h1,h2⟩
        ·have h2':vx.ownBlock=none:=h2.symm.trans (by simp[Value.ownBlock]);rw[h2']at h1;exact h1
        ·exact h1
       have hl:l1++l2=[]:=E2 (by rw[Bh];exact hz2);let v1:=v.own0 st.next ρ ⟨e,l1++l2,0,0⟩;have hc:=common v1 (λi hi=>by simp[v1,Val.own0,hi]) (by
        have:¬st.next+1<st.next:=by omega
        simp[v1,Val.own0,this,ρ])
       obtain⟨k1,k2,k3,k4⟩:=hc;have H:=hp.own0 (t:=el) (e:=e) (ne:=.add n1 n2) ρ ⟨e,l1++l2,0,0⟩ hg (λp hpm=>(a8 p hpm).1) (nx:=st.next+2) (by omega) (LE.ok_mono (by omega) hno) k1 hfo k2;refine⟨_,v1,wz,r1,H.1,by show st.next<=st.next+2;omega,rfl,H.2,?_,hok,λp hpm b hb=>hg.block b (hp.mem_lt hpm hb) (by simp)⟩;have hδ:v1.δ st.next=⟨e,l1++l2,0,0⟩:=by simp[v1,Val.own0]
       have hβ:v1.β st.next=none:=by simp[v1,Val.own0]
       show DC T v1 (.fz _ _ _ _ _ _) _;refine⟨by rw[hδ],?_,by rw[hδ];exact k3,by rw[hδ];exact k4,?_,?_⟩
       ·rw[hδ];exact⟨none,0,by rw[hl];rfl,by rw[hl];exact AW _,.inl hl⟩
       ·rw[hδ,LE.s_ev];have:¬st.next+1<st.next:=by omega
        simp[v1,Val.own0,this,ρ]
       ·intro g hg';cases hg';rw[hβ];rfl
      ·--in a block
       subst hz1;have hB:Blk wz g cur.toList el:=by unfold Blk;simpa using hz3
       have hcurl:cur.toList.length=cur.size:=FH;have hN:(l1.length+l2.length)*te.size<=cur.toList.length:=by
        rw[hcurl,hz6];exact EL _ hz4
       have hcell:∀i y,i<(l1.length+l2.length)*te.size->(cur.toList[i]? =some y↔(xs++news)[i]? =some y):=by
        intro i y hi;rw[<-hz7,Ea,if_pos hi]
       --the block:the old one,or new
       have hblk:(∀c,c<w.heap.size->c≠g->wz.heap[c]? =w.heap[c]?)/\wz.os=w.os/\wz.tape=w.tape/\wz.output=w.output/\w.heap.size<=wz.heap.size/\v.A g=none/\(∀p∈st.mem,v.β p.1≠some g)/\(∀p∈own',p∈st.own/\v.β p.1≠some g)/\(X.B g\/X.w0.heap.size<=g)/\
        ∀o y,v.M g o=some y->o<(l1.length+l2.length)*te.size/\cur.toList[o]? =some y:=by
        rcases r3 with⟨h1,h2⟩|⟨h1,h2⟩
        ·have hob:vx.ownBlock=some g:=h2.symm.trans (by simp[Value.ownBlock]);obtain⟨c1,c2,c3,c4,c5⟩:=a9 g hob;refine⟨λc hc hne=>h1.block c hc (by rw[hob];intro h;cases h;exact hne rfl),h1.os,h1.tape,h1.output,h1.size,c2,c3,λp hpm=>⟨(a8 p hpm).1,(a8 p hpm).2 g hob⟩,c4,λo y hy=>?_⟩;obtain⟨c6,c7⟩:=c5 o y hy;have hlt:o<(l1.length+l2.length)*te.size:=by rw[Dq];omega
         refine⟨hlt,(hcell o y hlt).2 ?_⟩;rw[GD (by omega)];exact c7
        ·simp only[Value.ownBlock,Option.some.injEq]at h2;subst h2;have hMn:=hp.M_new;refine⟨λc hc hne=>h1.block c hc (by simp),h1.os,h1.tape,h1.output,h1.size,hp.A_new,λp hpm he=>by have:=hp.mem_lt hpm he;omega,λp hpm=>⟨(a8 p hpm).1,λhe=>by have:=hp.own_lt (a8 p hpm).1 he;omega⟩,.inr hp.fra.size,λo y hy=>by rw[hMn o]at hy;cases hy⟩
       obtain⟨s1,s2,s3,s4,s5,s6,s7,s8,s9,s10⟩:=hblk;let v1:=v.frz st.next ρ ⟨e,l1++l2,g,0⟩ g cap ((l1.length+l2.length)*te.size) cur.toList;have hc:=common v1 (λi hi=>by simp[v1,Val.frz,hi]) (by
        have:¬st.next+1<st.next:=by omega
        simp[v1,Val.frz,this,ρ])
       obtain⟨k1,k2,k3,k4⟩:=hc;have H:=hp.frz (w':=wz) (b:=g) (N:=(l1.length+l2.length)*te.size) (n:=l1.length+l2.length) (cap:=cap) (cs:=cur.toList) (t:=el) (e:=e) (ne:=.add n1 n2) ρ ⟨e,l1++l2,g,0⟩ s2 s3 s4 s5 s1 hB hN s10 s6 s7 (own':=own') s8
        (λo y ho hy=>by
         have:=(hcell o y ho).1 hy;by_cases hlt:o<xs.length
         ·rw[GD hlt]at this;rcases a10 with h0|⟨b',o',_,h0⟩
          ·rw[hxl,h0]at hlt;simp at hlt
          ·exact(hp.hM _ _ _ (h0 o y this)).2.2
         ·rw[Me (by omega)]at this;exact b4.one y (BA this)) s9 (by rw[hsz]) (by rw[hcurl,hz6,hsz]) hz4 hz5 (nx:=st.next+2) (by omega) (LE.ok_mono (by omega) hno) (by show LE.ev v1.ρ _=_;rw[k3,Bh]) k1 hfo k2
       have hMle:DD v.M v1.M:=H.1.M;have hMb:∀i y,i<(l1.length+l2.length)*te.size->(xs++news)[i]? =some y->v1.M g i=some y:=λi y hi hy=>by
        simp[v1,Val.frz,hi];simpa using(hcell i y hi).2 hy
       refine⟨_,v1,wz,r1,H.1,by show st.next<=st.next+2;omega,rfl,H.2,?_,hok,λp hpm b hb=>s1 b (hp.mem_lt hpm hb) (λe=>s7 p hpm (e▸hb))⟩;have hll:l1.length+l2.length=(l1++l2).length:=by simp
       have:=Zv (T:=T) (v:=v) (k:=st.next) (b:=g) (cap:=cap) (N:=(l1.length+l2.length)*te.size) (cs:=cur.toList) (ρ:=ρ) (e:=e) (L:=l1++l2) (ne:=.add n1 n2) (me:=.add m1 m2) (de:=.s (st.next+1)) (λ_=>?_) (by rw[<-hll];exact hz4) hz5 k3 k4 (by
        rw[LE.s_ev];have:¬st.next+1<st.next:=by omega
        simp[Val.frz,this,ρ])
       ·rw[<-hll]at this;exact this
       ·refine RepL.append ?_ ?_
        ·rcases a10 with h0|⟨b',o',h1,h2⟩
         ·rw[h0];simp only[RepL]
         ·refine RepL.copy hMle h1 λi y hi hy=>?_;rw[BO];have hi':i<xs.length:=by rw[hxl,hsz];exact hi
          obtain⟨y',hy'⟩:∃y',xs[i]? =some y':=⟨_,Bm hi'⟩;have:=h2 i y' hy';rw[this]at hy;cases hy;exact hMb i y (by rw[Dq];omega) (by rw[GD hi'];exact hy')
        ·rcases b8 with h0|⟨b',o',h1,h2⟩
         ·rw[h0];simp only[RepL]
         ·have h1':=RepL.drop hinv h1 0 (0+l1.length);simp only[FI,Mo,Hf]at h1';refine RepL.copy hMle h1' λi y hi hy=>?_;have hi':i<news.length:=by rw[hnl,hsz];exact hi
          obtain⟨y',hy'⟩:∃y',news[i]? =some y':=⟨_,Bm hi'⟩;have:=h2 i y' hy';rw[this]at hy;cases hy;rw[BO,<-hsz,<-hxl];refine hMb _ y (by rw[hxl,Dq];omega) ?_;rw[Me (by omega)];simpa using hy'
     ·cases h
    ·cases h
   ·cases h
  ·cases h
 ·cases h
end
structure Sm where
 n:Int
 m:Int
 d:Int
 pm:Int->Int
def Sm.zero:Sm:=⟨0,0,0,λ_=>0⟩
def sem(T:Ar)(v:Val):SC->Sm
 | .int _ e=>⟨e.ev v.ρ,0,0,λ_=>0⟩
 | .bool e=>⟨e.ev v.ρ,0,0,λ_=>0⟩
 | .str e=>⟨e.ev v.ρ,0,0,λ_=>0⟩
 | .flt e=>⟨e.ev v.ρ,0,0,λ_=>0⟩
 | .fz _ i n m d _=>⟨n.ev v.ρ,m.ev v.ρ,d.ev v.ρ,λj=>pw T (v.δ i).l (v.δ i).e j.toNat⟩
 | .ar _ n=>⟨n.ev v.ρ,0,0,λ_=>0⟩
 | .pt _ m d=>⟨0,m.ev v.ρ,d.ev v.ρ,λ_=>0⟩
 | .kd e q=>⟨e.ev v.ρ,q.ev v.ρ,0,λ_=>0⟩
 | .sk=>⟨1,0,0,λ_=>0⟩
 | .lit e ss n m d=>⟨n,m,d,λj=>pw T (DM ss) e j.toNat⟩
 |_=>.zero
variable{c:SC}{v:Val}{k:Nat}{T:Ar}
theorem Ky{v':Val}(h:Ext k v v')(hc:c.ok k=true):sem T v' c=sem T v c:=by
 cases c<;>simp only[SC.ok,Aq,A_]at hc<;>simp only[sem]
 case int=>rw[Bj h.ρ hc]
 case bool=>rw[Bj h.ρ hc]
 case str=>rw[Bj h.ρ hc]
 case flt=>rw[Bj h.ρ hc]
 case fz=>rw[Bj h.ρ hc.1.1.1.2,Bj h.ρ hc.1.1.2,Bj h.ρ hc.1.2,h.δ _ hc.1.1.1.1]
 case ar=>rw[Bj h.ρ hc]
 case pt=>rw[Bj h.ρ hc.1,Bj h.ρ hc.2]
 case kd=>rw[Bj h.ρ hc.1,Bj h.ρ hc.2]
inductive A7 where
 |int (k:IntKind)
 |bool
 |boolc (b:Bool)
 |boolu
 |str
 |flt
 |fz (e:Nat)
 |own (el e:Nat)
 |ar (k:IntKind)
 |pt (e:Nat)
 |any
 |kd
 |sk
def OwnV(T:Ar)(w:World)(M:AT)(A:AV)(el e:Nat)(n:Int):Option Nat->Value->Prop
 |none,x=>x= .slice none 0 0
 |some b,x=>∃n' cap cs,x= .slice (some ⟨b,0,none⟩) n' cap/\Blk w b cs el/\cs.length=cap*(T e).cells.length/\n<=cap/\cap<=maxLen/\(∀o y,M b o=some y->(o:Int)<n*(T e).cells.length)/\A b=none
def Bv(n:Int):Sm:=⟨n,0,0,λ_=>0⟩
def Cd(T:Ar)(e:Nat)(l:List (List CV)):Sm:=⟨l.length,Az T l e,Bi T l e,λj=>pw T l e j.toNat⟩
def PV(T:Ar)(w:World)(M:AT)(A:AV):A7->Value->Sm->Option Nat->Prop
 | .int k,x,s,_=>s=Bv s.n/\x= .int k s.n/\Bs k s.n
 | .bool,x,s,_=>s=Bv s.n/\(s.n=0\/s.n=1)/\x= .bool (decide (s.n=1))
 | .boolc b,x,s,_=>s=Bv (Dr b)/\x= .bool b
 | .boolu,x,s,_=>s= .zero/\∃b,x= .bool b
 | .str,x,s,_=>s=Bv s.n/\∃b,x= .string b/\(b.size:Int)=s.n/\b.size<=maxLen
 | .flt,x,s,_=>s=Bv s.n/\x= .float .f64 s.n.toNat/\Bs .u64 s.n
 | .fz e,x,s,_=>∃u:LV,u.e=e/\ListAt T M A u x/\s=Cd T e u.l
 | .own el e,x,s,o=>(∃u:LV,u.e=e/\ListAt T M A u x/\s=Cd T e u.l)/\OwnV T w M A el e s.n o x
 | .ar k,x,s,_=>∃j:Nat,s=Bv j/\ArV A k j x
 | .pt e,x,s,_=>∃c,RepC T M A c (.pt e 0 0) x/\s=⟨0,Bl T c (.pt e 0 0),Df T c (.pt e 0 0),λ_=>0⟩
 | .any,x,s,_=>s= .zero/\x.oneCell'=true
 | .sk,x,s,_=>s=Bv 1/\x= .string tagS
 | .kd,x,s,_=>s=⟨s.n,DY s.n,0,λ_=>0⟩/\x= .int .i64 s.n/\Bs .i64 s.n
def AY(p:A7)(k:Nat):SC×List LE×List (Nat×Nat×Nat×LE)×Nat:=
 match p with
 | .int ik=>(.int ik (.s k),GW ik k,[],k+1)
 | .bool=>(.bool (.s k),[⟨0,[(k,1)]⟩,⟨1,[(k,-1)]⟩],[],k+1)
 | .boolc b=>(.bool (.k (Dr b)),[],[],k)
 | .boolu=>(.cmp (.sq (.k 0)),[],[],k)
 | .str=>(.str (.s k),[⟨0,[(k,1)]⟩],[],k+1)
 | .flt=>(.flt (.s k),[⟨0,[(k,1)]⟩,⟨18446744073709551615,[(k,-1)]⟩],[],k+1)
 | .fz e=>(.fz e k (.s k) (.s (k+1)) (.s (k+2)) none,[⟨0,[(k,1)]⟩,⟨0,[(k+1,1)]⟩],[],k+3)
 | .own el e=>(.fz e k (.s k) (.s (k+1)) (.s (k+2)) (some k),[⟨0,[(k,1)]⟩,⟨0,[(k+1,1)]⟩],[(k,el,e,.s k)],k+3)
 | .ar ik=>(.ar ik (.s k),[⟨0,[(k,1)]⟩],[],k+1)
 | .pt e=>(.pt e (.s k) (.s (k+1)),[⟨0,[(k,1)]⟩,⟨0,[(k+1,1)]⟩],[],k+2)
 | .any=>(.un,[],[],k)
 | .sk=>(.sk,[],[],k)
 | .kd=>(.kd (.s k) (.s (k+1)),[⟨0,[(k+1,1)]⟩],[],k+2)
def BD:List A7->Nat->List SC×List LE×List (Nat×Nat×Nat×LE)×Nat
 |[],k=>([],[],[],k)
 |p::ps,k=>match AY p k with
  |(c,fs,os,k1)=>match BD ps k1 with
   |(cs,gs,qs,k2)=>(c::cs,fs++gs,os++qs,k2)
theorem ZI(p:A7)(k:Nat):k<=(AY p k).2.2.2:=by cases p<;>simp[AY]
theorem Lm:∀(ps:List A7) (k:Nat),k<=(BD ps k).2.2.2
 |[],k=>Ay _
 |p::ps,k=>AX (ZI p k) (Lm ps _)
def PVs(T:Ar)(w:World)(M:AT)(A:AV):List A7->List Value->List Sm->List (Option Nat)->Prop
 |[],[],[],[]=>True
 |p::ps,x::xs,s::ss,o::os=>PV T w M A p x s o/\PVs T w M A ps xs ss os
 |_,_,_,_=>False
def By:A7->Bool
 | .own _ _=>true
 |_=>false
def OwnSyms(T:Ar)(w:World)(v:Val)(os:List (Nat×Nat×Nat×LE))(bs:List (Option Nat)):Prop:=
 All2 (λp b=>v.β p.1=b/\∀b',b=some b'->∃cs,Blk w b' cs p.2.1/\cs.length=(v.κ p.1).1*(T p.2.2.1).cells.length/\p.2.2.2.ev v.ρ<=((v.κ p.1).1:Int)/\(v.κ p.1).1<=maxLen/\
  (∀o y,v.M b' o=some y->(o:Int)<p.2.2.2.ev v.ρ*((T p.2.2.1).cells.length:Int))/\v.A b'=none) os bs
def B8:List A7->List (Option Nat)->List (Option Nat)
 |p::ps,o::os=>match By p with
  |true=>o::B8 ps os
  |false=>B8 ps os
 |_,_=>[]
def Val.own4(v:Val)(k:Nat)(f:Nat->Int)(u:LV)(o:Option Nat)(cap:Nat):Val:=
 {v with ρ:=λi=>if i<k then v.ρ i else f i,δ:=λi=>if i<k then v.δ i else u,β:=λi=>if i<k then v.β i else o,κ:=λi=>if i<k then v.κ i else(cap,0)}
theorem X9(v:Val)(k:Nat)(f:Nat->Int)(u:LV)(o:Option Nat)(cap:Nat):Ext k v (v.own4 k f u o cap):=
 ⟨λi hi=>by simp[Val.own4,hi],λi hi=>by simp[Val.own4,hi],λi hi=>by simp[Val.own4,hi],λi hi=>by simp[Val.own4,hi],λ_ _ _ h=>h,λ_ _ h=>h⟩
structure Ou(T:Ar)(w:World)(v v':Val)(k:Nat)(cs:List SC)(fs:List LE)(os:List (Nat×Nat×Nat×LE))(nx:Nat)(xs:List Value)(ss:List Sm)(bs:List (Option Nat)):Prop where
 ext:Ext k v v'
 hM:v'.M=v.M
 hA:v'.A=v.A
 cells:All2 (DC T v') cs xs
 ok:cs.all (SC.ok nx)=true
 facts:Holds v'.ρ fs
 okf:∀f∈fs,f.ok nx=true
 own:OwnSyms T w v' os bs
 oko:∀p∈os,DA nx p=true/\k<=p.1
 sem:cs.map (sem T v')=ss
theorem HD{j:Nat}(a b:Int)(h:j<k):(⟨a,[(j,b)]⟩:LE).ok k=true:=by simp[LE.ok,Bq,A_,h]
theorem EF{j:Nat}(h:j<k):(LE.s j).ok k=true:=HD 0 1 h
section
variable{T:Ar}{w:World}{v:Val}{k:Nat}
variable{x:Value}
theorem Aqn{p:A7}{s:Sm}{o:Option Nat}(h:PV T w v.M v.A p x s o):
 ∃v',Ou T w v v' k [(AY p k).1] (AY p k).2.1 (AY p k).2.2.1 (AY p k).2.2.2 [x] [s] (match By p with|true=>[o]|false=>[]):=by
 have simple:∀(v':Val) (c:SC) (fs:List LE) (nx:Nat),k<=nx->Ext k v v'->v'.M=v.M->v'.A=v.A->DC T v' c x->c.ok nx=true->Holds v'.ρ fs->(∀f∈fs,f.ok nx=true)->sem T v' c=s->
  Ou T w v v' k [c] fs [] nx [x] [s] []:=λv' c fs nx _ h1 h2 h3 h4 h5 h6 h7 h8=>
  ⟨h1,h2,h3,⟨h4,trivial⟩,by show(c.ok nx&&true)=true;rw[h5];rfl,h6,h7,trivial,by simp,by simp[h8]⟩
 cases p with
 |int ik=>
  obtain⟨h1,rfl,h2⟩:=h;have he:(v.ints k [s.n]).ρ k=s.n:=by simp[Val.ints]
  refine⟨_,simple (v.ints k [s.n]) _ _ _ (by simp[AY]) (E6 _ _ _) V V ?_ ?_ ?_ ?_ ?_⟩
  ·show DC T _ (.int _ _) _;simp[DC,he,h2]
  ·exact EF (Cb _)
  ·exact Q7 (by rw[he];exact h2)
  ·exact Wj (Cb _)
  ·rw[h1];simp[AY,sem,he,Bv]
 |bool=>
  obtain⟨h1,h2,rfl⟩:=h;have he:(v.ints k [s.n]).ρ k=s.n:=by simp[Val.ints]
  refine⟨_,simple (v.ints k [s.n]) _ _ _ (by simp[AY]) (E6 _ _ _) V V ?_ ?_ ?_ ?_ ?_⟩
  ·show DC T _ (.bool _) _;simp[DC,he,h2]
  ·exact EF (Cb _)
  ·intro f hf;simp only[AY,Ao,AB,or_false]at hf;rcases hf with rfl|rfl<;>simp only[Dc,he]<;>omega
  ·intro f hf;simp only[AY,Ao,AB,or_false]at hf;rcases hf with rfl|rfl<;>exact HD _ _ (Cb _)
  ·rw[h1];simp[AY,sem,he,Bv]
 |boolc b=>
  obtain⟨rfl,rfl⟩:=h;refine⟨_,simple v _ _ _ (Ay _) (Ext.refl _ _) V V ?_ V (by simp[Holds,AY]) (by simp[AY]) ?_⟩
  ·show DC T _ (.bool _) _;simp only[DC,LE.k_ev];cases b<;>simp[Dr]
  ·simp[AY,sem,Bv]
 |boolu=>
  obtain⟨rfl,b,rfl⟩:=h;refine⟨_,simple v _ _ _ (Ay _) (Ext.refl _ _) V V ⟨b,rfl,?_⟩ rfl (by simp[Holds,AY]) (by simp[AY]) V⟩;simp[BE.rel]
 |str=>
  obtain⟨h1,b,rfl,h2,h3⟩:=h;have he:(v.ints k [s.n]).ρ k=s.n:=by simp[Val.ints]
  refine⟨_,simple (v.ints k [s.n]) _ _ _ (by simp[AY]) (E6 _ _ _) V V ⟨b,rfl,by simp[he,h2],h3⟩ ?_ ?_ ?_ ?_⟩
  ·exact EF (Cb _)
  ·intro f hf;simp only[AY,Ao,AB,or_false]at hf;subst hf;simp only[Dc,he];omega
  ·intro f hf;simp only[AY,Ao,AB,or_false]at hf;subst hf;exact HD _ _ (Cb _)
  ·rw[h1];simp[AY,sem,he,Bv]
 |flt=>
  obtain⟨h1,rfl,h2⟩:=h;have he:(v.ints k [s.n]).ρ k=s.n:=by simp[Val.ints]
  refine⟨_,simple (v.ints k [s.n]) _ _ _ (by simp[AY]) (E6 _ _ _) V V ⟨by rw[LE.s_ev,he],by rw[LE.s_ev,he];exact h2⟩ ?_ ?_ ?_ ?_⟩
  ·exact EF (Cb _)
  ·have h0:=h2.1;have h3:=h2.2;intro f hf;simp only[AY,Ao,AB,or_false]at hf;simp only[Cq,C1]at h0 h3;rcases hf with rfl|rfl<;>simp only[Dc,he]<;>omega
  ·intro f hf;simp only[AY,Ao,AB,or_false]at hf;rcases hf with rfl|rfl<;>exact HD _ _ (Cb _)
  ·rw[h1];simp[AY,sem,he,Bv]
 |any=>
  obtain⟨rfl,h1⟩:=h;exact⟨_,simple v _ _ _ (Ay _) (Ext.refl _ _) V V h1 V (by simp[Holds,AY]) (by simp[AY]) V⟩
 |sk=>
  obtain⟨rfl,rfl⟩:=h;exact⟨_,simple v _ _ _ (Ay _) (Ext.refl _ _) V V V V (by simp[Holds,AY]) (by simp[AY]) V⟩
 |kd=>
  obtain⟨h1,rfl,h2⟩:=h;have he:(v.ints k [s.n,DY s.n]).ρ k=s.n:=by simp[Val.ints]
  have he2:(v.ints k [s.n,DY s.n]).ρ (k+1)=DY s.n:=by rw[RR];simp
  refine⟨_,simple (v.ints k [s.n,DY s.n]) _ _ _ (by simp[AY]) (E6 _ _ _) V V ⟨by rw[LE.s_ev,he],by rw[LE.s_ev,he];exact h2,by rw[LE.s_ev,he2,LE.s_ev,he]⟩ ?_ ?_ ?_ ?_⟩
  ·show((LE.s k).ok (k+2)&&(LE.s (k+1)).ok (k+2))=true;rw[EF (by omega),EF (by omega)];rfl
  ·have q1:=Abk s.n;intro f hf;simp only[AY,Ao,AB,or_false]at hf;subst hf;simp only[Dc,he2];omega
  ·intro f hf;simp only[AY,Ao,AB,or_false]at hf;subst hf;exact HD _ _ (by show k+1<k+2;omega)
  ·rw[h1];simp[AY,sem,he,he2]
 |ar ik=>
  obtain⟨j,rfl,h1⟩:=h;have he:(v.ints k [(j:Int)]).ρ k=j:=by simp[Val.ints]
  refine⟨_,simple (v.ints k [(j:Int)]) _ _ _ (by simp[AY]) (E6 _ _ _) V V ⟨j,by simp[he],h1⟩ ?_ ?_ ?_ ?_⟩
  ·exact EF (Cb _)
  ·intro f hf;simp only[AY,Ao,AB,or_false]at hf;subst hf;simp only[Dc,he];omega
  ·intro f hf;simp only[AY,Ao,AB,or_false]at hf;subst hf;exact HD _ _ (Cb _)
  ·simp[AY,sem,he,Bv]
 |pt e=>
  obtain⟨c,h1,rfl⟩:=h;have q1:=FD T c (.pt e 0 0);have q2:=Amt T c (.pt e 0 0);have he:(v.ints k [Bl T c (.pt e 0 0),Df T c (.pt e 0 0)]).ρ k=Bl T c (.pt e 0 0):=by simp[Val.ints]
  have he2:(v.ints k [Bl T c (.pt e 0 0),Df T c (.pt e 0 0)]).ρ (k+1)=Df T c (.pt e 0 0):=by rw[RR];simp
  refine⟨_,simple (v.ints k [Bl T c (.pt e 0 0),Df T c (.pt e 0 0)]) _ _ _ (by simp[AY]) (E6 _ _ _) V V ⟨c,h1,by rw[LE.s_ev,he],by rw[LE.s_ev,he2]⟩ ?_ ?_ ?_ ?_⟩
  ·show((LE.s k).ok (k+2)&&(LE.s (k+1)).ok (k+2))=true;rw[EF (by omega),EF (by omega)];rfl
  ·intro f hf;simp only[AY,Ao,AB,or_false]at hf;rcases hf with rfl|rfl<;>simp only[Dc,he,he2]<;>omega
  ·intro f hf;simp only[AY,Ao,AB,or_false]at hf;rcases hf with rfl|rfl
   ·exact HD _ _ (by show k<k+2;omega)
   ·exact HD _ _ (by show k+1<k+2;omega)
  ·simp[AY,sem,he,he2]
 |fz e=>
  obtain⟨u,h1,h2,rfl⟩:=h;let f:Nat->Int:=λi=>if i=k then(u.l.length:Int)else if i=k+1 then Az T u.l e else Bi T u.l e
  let v1:=v.own4 k f u none 0;have e0:v1.ρ k=u.l.length:=by simp[v1,Val.own4,f]
  have e1:v1.ρ (k+1)=Az T u.l e:=by
   have:¬k+1<k:=by omega
   simp[v1,Val.own4,f,this]
  have e2:v1.ρ (k+2)=Bi T u.l e:=by
   have:¬k+2<k:=by omega
   simp[v1,Val.own4,f,this]
  have e3:v1.δ k=u:=by simp[v1,Val.own4]
  have q1:=EE T u.l e;have q2:=IZ T e u.l;refine⟨v1,simple v1 _ _ _ (by simp[AY]) (X9 _ _ _ _ _ _) V V ⟨by rw[e3];exact h1,by rw[e3];exact h2,by rw[LE.s_ev,e0,e3],by rw[LE.s_ev,e1,e3],by rw[LE.s_ev,e2,e3],by simp⟩ ?_ ?_ ?_ ?_⟩
  ·simp[AY,SC.ok,LE.ok,LE.s,Bq,Iw,A_]
  ·intro f hf;simp only[AY,Ao,AB,or_false]at hf;rcases hf with rfl|rfl<;>simp only[Dc,e0,e1]<;>omega
  ·intro f hf;simp only[AY,Ao,AB,or_false]at hf;rcases hf with rfl|rfl<;>exact HD _ _ (by simp[AY])
  ·simp only[AY,sem,LE.s_ev,e0,e1,e2,e3,Cd,h1]
 |own el e=>
  obtain⟨⟨u,h1,h2,rfl⟩,h3⟩:=h;let cap:Nat:=match x with
   | .slice _ _ c=>c
   |_=>0
  let f:Nat->Int:=λi=>if i=k then(u.l.length:Int)else if i=k+1 then Az T u.l e else Bi T u.l e
  let v1:=v.own4 k f u o cap;have e0:v1.ρ k=u.l.length:=by simp[v1,Val.own4,f]
  have e1:v1.ρ (k+1)=Az T u.l e:=by
   have:¬k+1<k:=by omega
   simp[v1,Val.own4,f,this]
  have e2:v1.ρ (k+2)=Bi T u.l e:=by
   have:¬k+2<k:=by omega
   simp[v1,Val.own4,f,this]
  have e3:v1.δ k=u:=by simp[v1,Val.own4]
  have e4:v1.β k=o:=by simp[v1,Val.own4]
  have e5:v1.κ k=(cap,0):=by simp[v1,Val.own4]
  have q1:=EE T u.l e;have q2:=IZ T e u.l;have hf:Holds v1.ρ [⟨0,[(k,1)]⟩,⟨0,[(k+1,1)]⟩]:=by
   intro f hf;simp only[Ao,AB,or_false]at hf;rcases hf with rfl|rfl<;>simp only[Dc,e0,e1]<;>omega
  refine⟨v1,X9 _ _ _ _ _ _,rfl,rfl,⟨⟨by rw[e3];exact h1,by rw[e3];exact h2,by rw[LE.s_ev,e0,e3],by rw[LE.s_ev,e1,e3],by rw[LE.s_ev,e2,e3],?_⟩,trivial⟩,?_,hf,?_,⟨⟨e4,?_⟩,trivial⟩,?_,?_⟩
  ·intro g hg;cases hg;rw[e4,e5];cases o with
   |none=>exact h3
   |some b=>
    obtain⟨n',cap',cs,rfl,_⟩:=h3;exact⟨n',rfl⟩
  ·simp[AY,SC.ok,LE.ok,LE.s,Bq,Iw,A_]
  ·intro f hf;simp only[AY,Ao,AB,or_false]at hf;rcases hf with rfl|rfl<;>exact HD _ _ (by simp[AY])
  ·intro b' hb';subst hb';obtain⟨n',cap',cs,rfl,c1,c2,c3,c4,c5,c6⟩:=h3;refine⟨cs,c1,by rw[e5];exact c2,by rw[e5];simp only[LE.s_ev,e0];exact c3,by rw[e5];exact c4,λo y hy=>?_,c6⟩;simp only[LE.s_ev,e0];exact c5 o y hy
  ·intro q hq;simp only[AY,Ao,AB,or_false]at hq;subst hq;refine⟨?_,Ay _⟩;simp only[DA,Aq,A_];exact⟨by simp[AY],EF (by simp[AY])⟩
  ·simp only[AY,CA,Rv,sem,LE.s_ev,e0,e1,e2,e3,Cd,h1]
end
section
variable{P:Program}{T:Ar}{X:Cx}{nt:Nat}{v v':Val}{st st':St}{a:Act}{w w':World}{k k':Nat}
theorem OwnSyms.ext(h:Ext k v v')(hM:v'.M=v.M)(hA:v'.A=v.A):∀{os:List (Nat×Nat×Nat×LE)}{bs:List (Option Nat)},(∀p∈os,DA k p=true)->OwnSyms T w v os bs->OwnSyms T w v' os bs:=by
 intro os bs ho hs;refine All2.imp hs λp hp b hb=>?_;have h1:=ho p hp;simp only[DA,Aq,A_]at h1;rw[h.β _ h1.1,h.κ _ h1.1,hM,hA,Bj h.ρ h1.2];exact hb
theorem Nf:∀{ps:List A7}{xs:List Value}{ss:List Sm}{os:List (Option Nat)}{v:Val}{k:Nat},PVs T w v.M v.A ps xs ss os->
 ∃v',Ou T w v v' k (BD ps k).1 (BD ps k).2.1 (BD ps k).2.2.1 (BD ps k).2.2.2 xs ss (B8 ps os)
 |[],[],[],[],v,k,_=>⟨v,Ext.refl _ _,rfl,rfl,trivial,rfl,by simp[BD,Holds],by simp[BD],trivial,by simp[BD],rfl⟩
 |p::ps,x::xs,s::ss,o::os,v,k,h=>by
  obtain⟨v1,H⟩:=Aqn (k:=k) h.1;have h2:=h.2;rw[<-H.hM,<-H.hA]at h2;obtain⟨v2,G⟩:=Nf (k:=(AY p k).2.2.2) h2;have hn:=ZI p k;have hn2:=Lm ps (AY p k).2.2.2;refine⟨v2,?_⟩;have hcok:(AY p k).1.ok (AY p k).2.2.2=true:=by have:=H.ok;simpa using this
  constructor
  ·exact H.ext.trans G.ext hn
  ·exact G.hM.trans H.hM
  ·exact G.hA.trans H.hA
  ·exact⟨DC.ext G.ext hcok H.cells.1,G.cells⟩
  ·have:((AY p k).1.ok (BD ps (AY p k).2.2.2).2.2.2&&(BD ps (AY p k).2.2.2).1.all (SC.ok (BD ps (AY p k).2.2.2).2.2.2))=true:=by
    rw[Aq];exact⟨SC.ok_mono hn2 hcok,G.ok⟩
   exact this
  ·intro f hf;rcases B3.1 hf with hf|hf
   ·exact Holds.ext G.ext H.okf H.facts f hf
   ·exact G.facts f hf
  ·intro f hf;rcases B3.1 hf with hf|hf
   ·exact LE.ok_mono hn2 (H.okf f hf)
   ·exact G.okf f hf
  ·have e1:=OwnSyms.ext G.ext G.hM G.hA (λq hq=>(H.oko q hq).1) H.own;show OwnSyms T w v2 ((AY p k).2.2.1++(BD ps _).2.2.1) (B8 (p::ps) (o::os));simp only[B8];cases hp:By p with
   |true=>rw[hp]at e1;exact e1.append G.own
   |false=>
    rw[hp]at e1;have:(AY p k).2.2.1=[]:=by cases p<;>first|rfl|(simp[By]at hp)
    rw[this];exact G.own
  ·intro q hq;rcases B3.1 hq with hq|hq
   ·exact⟨Ks hn2 (H.oko q hq).1,(H.oko q hq).2⟩
   ·exact⟨(G.oko q hq).1,by have:=(G.oko q hq).2;omega⟩
  ·have e1:=H.sem;simp only[CA,Rv,List.cons.injEq,Gc]at e1;have:sem T v2 (AY p k).1::((BD ps (AY p k).2.2.2).1.map (sem T v2))=s::ss:=by rw[Ky G.ext hcok,e1,G.sem]
   exact this
 |[],[],[],_::_,_,_,h=>h.elim
 |[],[],_::_,_,_,_,h=>h.elim
 |[],_::_,_,_,_,_,h=>h.elim
 |_::_,[],_,_,_,_,h=>h.elim
 |_::_,_::_,[],_,_,_,h=>h.elim
 |_::_,_::_,_::_,[],_,_,h=>h.elim
inductive Tm where
 |k (c:Int)
 |v (i:Nat)
 |m (i:Nat)
 |d (i:Nat)
 |p (i:Nat) (t:Tm)
 |add (a b:Tm)
 |mul (c:Int) (t:Tm)
def Tm.den(X:List Sm):Tm->Int
 | .k c=>c
 | .v i=>((X[i]?).getD .zero).n
 | .m i=>((X[i]?).getD .zero).m
 | .d i=>((X[i]?).getD .zero).d
 | .p i t=>((X[i]?).getD .zero).pm (t.den X)
 | .add a b=>a.den X+b.den X
 | .mul c t=>c*t.den X
def NP:SC->LE
 | .fz _ _ _ m _ _=>m
 | .pt _ m _=>m
 | .kd _ q=>q
 | .lit _ _ _ m _=>.k m
 |_=>.k 0
def MC:SC->LE
 | .kd e _=>e
 |c=>CC c
theorem Ahd{k:Nat}(h:c.ok k=true):(MC c).ok k=true:=by
 unfold MC;split
 ·simp only[SC.ok,Aq]at h;exact h.1
 ·exact Y_ h
def NO:SC->LE
 | .fz _ _ _ _ d _=>d
 | .pt _ _ d=>d
 | .lit _ _ _ _ d=>.k d
 |_=>.k 0
def Wb(st:St)(c:SC)(ix:LE):Option (LE×St):=
 match c with
 | .fz _ i n m _ _=>match Fk st i ix with
  |some s=>match Lf st.pres i ix,Nat.blt i st.next&&ix.ok st.next with
   |none,true=>some (.s s,{st with facts:=[]++st.facts,rows:=[]++st.rows,pres:=[(i,ix,s)]++st.pres,rix:=[]++st.rix,next:=st.next})
   |_,_=>some (.s s,st)
  |none=>match BF st.facts CD ix&&(Nat.blt i st.next&&ix.ok st.next&&m.ok st.next&&n.ok st.next)with
   |true=>some (.s st.next,{st with
    facts:=([.s st.next,.sub m (.s st.next)]++(match ix.eqb n with|true=>[.sub (.s st.next) m]|false=>[])++(match ix.eqb (.k 0)with|true=>[.neg (.s st.next)]|false=>[]))++st.facts
    rows:=[]++st.rows,pres:=[(i,ix,st.next)]++st.pres,rix:=[]++st.rix,next:=st.next+1})
   |false=>none
 | .nil=>some (.k 0,st)
 |_=>none
def Tm.ev(vec:List SC):Tm->St->Option (LE×St)
 | .k c,st=>some (.k c,st)
 | .v i,st=>some (MC ((vec[i]?).getD .un),st)
 | .m i,st=>some (NP ((vec[i]?).getD .un),st)
 | .d i,st=>some (NO ((vec[i]?).getD .un),st)
 | .p i t,st=>match t.ev vec st with
  |some (ix,st1)=>Wb st1 ((vec[i]?).getD .un) ix
  |none=>none
 | .add a b,st=>match a.ev vec st with
  |some (x,st1)=>match b.ev vec st1 with
   |some (y,st2)=>some (.add x y,st2)
   |none=>none
  |none=>none
 | .mul c t,st=>match t.ev vec st with
  |some (x,st1)=>some (.mul c x,st1)
  |none=>none
theorem Qz{k:Nat}(a:Int):∀{l:List (Nat×Int)},Bq k l=true->Bq k (Fp a l)=true
 |[],_=>rfl
 |(u,i)::l,h=>by
  simp only[Bq,Aq,A_]at h;simp only[Fp,FK];split
  ·exact Qz a h.2
  ·simp only[Bq,Aq,A_];exact⟨h.1,Qz a h.2⟩
structure Grew(T:Ar)(X:Cx)(v:Val)(st:St)(w:World)(v':Val)(st':St):Prop where
 ext:Ext st.next v v'
 hM:v'.M=v.M
 hA:v'.A=v.A
 next:st.next<=st'.next
 env:st'.env=st.env
 mem:st'.mem=st.mem
 own:st'.own=st.own
 rows:st'.rows=st.rows
 hp:Hp T X v' st' w
theorem Grew.refl(hp:Hp T X v st w):Grew T X v st w v st:=⟨Ext.refl _ _,rfl,rfl,Ay _,rfl,rfl,rfl,rfl,hp⟩
theorem Grew.trans{v'':Val}{st'':St}(g:Grew T X v st w v' st')(h:Grew T X v' st' w v'' st''):Grew T X v st w v'' st'':=
 ⟨g.ext.trans h.ext g.next,h.hM.trans g.hM,h.hA.trans g.hA,AX g.next h.next,h.env.trans g.env,h.mem.trans g.mem,h.own.trans g.own,h.rows.trans g.rows,h.hp⟩
theorem Asp(hp:Hp T X v st w){ix e:LE}(h:Wb st c ix=some (e,st'))(hc:c.ok st.next=true)(hx:ix.ok st.next=true)(hcell:∃x,DC T v c x):
 ∃v',Grew T X v st w v' st'/\e.ok st'.next=true/\e.ev v'.ρ=(sem T v c).pm (ix.ev v.ρ):=by
 unfold Wb at h;split at h
 ·rename_i ee i n m d o;obtain⟨x,hx1,hx2,hx3,hx4,_⟩:=hcell;simp only[SC.ok,Aq,A_]at hc;split at h
  ·rename_i s hs;obtain⟨f,hf,hfe⟩:=MS hp.facts hs;obtain⟨⟨j,h1,h2⟩,h3⟩:=hp.pres _ hf;simp only[El,Aq,A_]at h3;simp only at h1 h2;rw[hfe]at h1;split at h<;>cases h
   ·rename_i hb;simp only[Aq,A_]at hb;have H:=hp.pure (Ext.refl st.next v) rfl rfl [] [] [(i,ix,s)] [] st.next (Ay _) (by simp[Holds]) (by simp) (by simp) (by
     intro p hpm;simp only[Ao,AB,or_false]at hpm;subst hpm;refine⟨⟨j,h1,h2⟩,?_⟩;simp only[El,Aq,A_];exact⟨⟨hb.1,hb.2⟩,h3.2⟩) (by simp)
    refine⟨v,⟨Ext.refl _ _,rfl,rfl,Ay _,rfl,rfl,rfl,rfl,H⟩,EF h3.2,?_⟩;simp only[LE.s_ev,sem,h1,h2,Do]
   ·refine⟨v,Grew.refl hp,EF h3.2,?_⟩;simp only[LE.s_ev,sem,h1,h2,Do]
  ·split at h<;>cases h;rename_i hb;simp only[Aq,A_]at hb;have p1:=BU hp.facts _ _ hb.1;let v1:=v.ints st.next [pw T (v.δ i).l (v.δ i).e (ix.ev v.ρ).toNat];have hext:Ext st.next v v1:=E6 _ _ _;have e0:v1.ρ st.next=pw T (v.δ i).l (v.δ i).e (ix.ev v.ρ).toNat:=by simp[v1,Val.ints]
   have hm1:m.ev v1.ρ=m.ev v.ρ:=Bj hext.ρ hc.1.1.2;have hn1:n.ev v1.ρ=n.ev v.ρ:=Bj hext.ρ hc.1.1.1.2;have hi1:ix.ev v1.ρ=ix.ev v.ρ:=Bj hext.ρ hx;have q1:=Asv T (v.δ i).l (v.δ i).e (ix.ev v.ρ).toNat;have q2:=Ast T (v.δ i).l (v.δ i).e (ix.ev v.ρ).toNat;have hbig:=Nv;have hlm:(v.δ i).l.length<=maxLen:=by obtain⟨_,_,_,hlm,_⟩:=hx2;exact hlm
   rw[hx1]at q1 q2 e0;have hok:∀f∈([.s st.next,.sub m (.s st.next)]++(match ix.eqb n with|true=>[LE.sub (.s st.next) m]|false=>[])++(match ix.eqb (.k 0)with|true=>[LE.neg (.s st.next)]|false=>[])),0<=f.ev v1.ρ/\f.ok (st.next+1)=true:=by
    intro f hf;simp only[B3,Ao,AB,or_false]at hf;rcases hf with((rfl|rfl)|hf)|hf
    ·exact⟨by rw[LE.s_ev,e0];exact q1,EF (by omega)⟩
    ·exact⟨by rw[LE.sub_ev,LE.s_ev,e0,hm1,hx4];omega,Rq (LE.ok_mono (by omega) hc.1.1.2) (EF (by omega))⟩
    ·split at hf
     ·rename_i hq;simp only[Ao,AB,or_false]at hf;subst hf;have:=Dp hq;have hl:(ix.ev v.ρ).toNat=(v.δ i).l.length:=by rw[this,hx3];simp
      refine⟨?_,Rq (EF (by omega)) (LE.ok_mono (by omega) hc.1.1.2)⟩;rw[LE.sub_ev,LE.s_ev,e0,hm1,hx4,hl,EG (by omega),E5];omega
     ·simp at hf
    ·split at hf
     ·rename_i hq;simp only[Ao,AB,or_false]at hf;subst hf;have:=Dp hq;have hl:(ix.ev v.ρ).toNat=0:=by rw[this];simp
      refine⟨?_,?_⟩
      ·rw[LE.neg_ev,LE.s_ev,e0,hl,EG (by decide)];simp[Az]
      ·exact Qz (-1) (EF (Cb _))
     ·simp at hf
   have H:=hp.pure hext rfl rfl (([.s st.next,.sub m (.s st.next)]++(match ix.eqb n with|true=>[LE.sub (.s st.next) m]|false=>[])++(match ix.eqb (.k 0)with|true=>[LE.neg (.s st.next)]|false=>[]))) [] [(i,ix,st.next)] [] (st.next+1) (by omega)
    (λf hf=>(hok f hf).1) (λf hf=>(hok f hf).2) (by simp) (by
     intro p hpm;simp only[Ao,AB,or_false]at hpm;subst hpm;refine⟨⟨(ix.ev v.ρ).toNat,?_,?_⟩,?_⟩
     ·show ix.ev v1.ρ=_;rw[hi1];omega
     ·show v1.ρ st.next=pw T (v.δ i).l (v.δ i).e (ix.ev v.ρ).toNat;rw[e0,hx1]
     ·simp only[El,Aq,A_];exact⟨⟨by omega,LE.ok_mono (by omega) hx⟩,by omega⟩) (by simp)
   refine⟨v1,⟨hext,rfl,rfl,by show st.next<=st.next+1;omega,rfl,rfl,rfl,rfl,H⟩,EF (by show st.next<st.next+1;omega),?_⟩;rw[LE.s_ev,e0];simp only[sem,hx1]
 ·cases h;exact⟨v,Grew.refl hp,rfl,by simp[sem,Sm.zero]⟩
 ·cases h
theorem At2:(NP c).ev v.ρ=(sem T v c).m:=by
 cases c<;>simp[NP,sem,Sm.zero]
theorem At0:(NO c).ev v.ρ=(sem T v c).d:=by
 cases c<;>simp[NO,sem,Sm.zero]
theorem Ahc:(MC c).ev v.ρ=(sem T v c).n:=by
 cases c<;>simp[MC,CC,sem,Sm.zero]
theorem At1{k:Nat}(h:c.ok k=true):(NP c).ok k=true:=by
 cases c<;>simp only[SC.ok,Aq]at h<;>simp only[NP]<;>first|exact h.1.1.2|exact h.1|exact h.2|rfl
theorem Atz{k:Nat}(h:c.ok k=true):(NO c).ok k=true:=by
 cases c<;>simp only[SC.ok,Aq]at h<;>simp only[NO]<;>first|exact h.1.2|exact h.2|rfl
theorem Nb{vec:List SC}{k:Nat}(h:vec.all (SC.ok k)=true)(i:Nat):((vec[i]?).getD .un).ok k=true:=by
 cases hi:vec[i]? with
 |none=>rfl
 |some c=>
  simp only[Bg]at h;exact h c (BA hi)
theorem PX{vec:List SC}(i:Nat):(((vec.map (sem T v))[i]?).getD .zero)=sem T v ((vec[i]?).getD .un):=by
 cases hi:vec[i]? with
 |none=>simp[hi,sem]
 |some c=>simp[hi]
theorem Hj{vec:List SC}:∀(t:Tm) {u:Val}{st st':St}{e:LE},Hp T X u st w->vec.all (SC.ok st.next)=true->(∀c∈vec,∃x,DC T u c x)->t.ev vec st=some (e,st')->
 ∃v',Grew T X u st w v' st'/\e.ok st'.next=true/\e.ev v'.ρ=t.den (vec.map (sem T u))
 | .k c,u,st,st',e,hp,_,_,h=>by
  simp only[Tm.ev]at h;cases h;exact⟨u,Grew.refl hp,rfl,by simp[Tm.den]⟩
 | .v i,u,st,st',e,hp,ho,_,h=>by
  simp only[Tm.ev]at h;cases h;exact⟨u,Grew.refl hp,Ahd (Nb ho i),by simp only[Tm.den,PX];exact Ahc⟩
 | .m i,u,st,st',e,hp,ho,_,h=>by
  simp only[Tm.ev]at h;cases h;exact⟨u,Grew.refl hp,At1 (Nb ho i),by simp only[Tm.den,PX];exact At2⟩
 | .d i,u,st,st',e,hp,ho,_,h=>by
  simp only[Tm.ev]at h;cases h;exact⟨u,Grew.refl hp,Atz (Nb ho i),by simp only[Tm.den,PX];exact At0⟩
 | .p i t,u,st,st',e,hp,ho,hc,h=>by
  simp only[Tm.ev]at h;split at h
  ·rename_i ix st1 h1;obtain⟨v1,g1,h2,h3⟩:=Hj t hp ho hc h1;have ho1:=SCs.ok_mono g1.next ho;have hcell:∃x,DC T v1 ((vec[i]?).getD .un) x:=by
    cases hi:vec[i]? with
    |none=>exact⟨.bool true,rfl⟩
    |some c=>
     obtain⟨x,hx⟩:=hc c (BA hi);simp only[Bg]at ho;exact⟨x,DC.ext g1.ext (ho c (BA hi)) hx⟩
   obtain⟨v2,g2,h4,h5⟩:=Asp g1.hp h (Nb ho1 i) h2 hcell;refine⟨v2,g1.trans g2,h4,?_⟩;rw[h5,h3,Ky g1.ext (Nb ho i)];simp only[Tm.den,PX]
  ·cases h
 | .add a b,u,st,st',e,hp,ho,hc,h=>by
  simp only[Tm.ev]at h;split at h
  ·rename_i x st1 h1;split at h<;>cases h;rename_i y h2;obtain⟨v1,g1,h3,h4⟩:=Hj a hp ho hc h1;have ho':=ho;simp only[Bg]at ho';obtain⟨v2,g2,h5,h6⟩:=Hj b g1.hp (SCs.ok_mono g1.next ho) (λc hcm=>by obtain⟨x,hx⟩:=hc c hcm;exact⟨x,DC.ext g1.ext (ho' c hcm) hx⟩) h2;refine⟨v2,g1.trans g2,Mc (LE.ok_mono g2.next h3) h5,?_⟩;have:vec.map (sem T v1)=vec.map (sem T u):=O5 λc hcm=>Ky g1.ext (ho' c hcm);rw[LE.add_ev,h6,Bj g2.ext.ρ h3,h4,this];rfl
  ·cases h
 | .mul c t,u,st,st',e,hp,ho,hc,h=>by
  simp only[Tm.ev]at h;split at h<;>cases h;rename_i x h1;obtain⟨v1,g1,h3,h4⟩:=Hj t hp ho hc h1;exact⟨v1,g1,Qz c h3,by rw[LE.mul_ev,h4];rfl⟩
end
def VC(T:Ar)(st:St):A7->SC->Option (List Nat)
 | .int k,.int k' _=>match decide (k=k')with
  |true=>some []
  |false=>none
 | .bool,.bool _=>some []
 | .boolc b,.bool e=>match e.con with
  |some c=>match ES (c-Dr b)with
   |true=>some []
   |false=>none
  |none=>none
 | .boolu,.bool _=>some []
 | .boolu,.cmp _=>some []
 | .str,.str _=>some []
 | .str,.sk=>some []
 | .sk,.sk=>some []
 | .flt,.flt _=>some []
 | .fz e,.fz e' _ _ _ _ _=>match I2 T e' e with
  |true=>some []
  |false=>none
 | .fz _,.nil=>some []
 | .fz e,.lit e' _ _ _ _=>match I2 T e' e with
  |true=>some []
  |false=>none
 | .own _ _,.nil=>some []
 | .own el e,.fz e' _ n _ _ (some g)=>match Ck.get st.own g with
  |some (el',e2,n')=>match Nat.beq e' e&&Nat.beq el' el&&Nat.beq e2 e&&LE.eqb n' n with
   |true=>some [g]
   |false=>none
  |none=>none
 | .ar k,.ar k' _=>match decide (k=k')with
  |true=>some []
  |false=>none
 | .ar _,.nil=>some []
 | .pt e,.pt e' _ _=>match Nat.beq e' e with
  |true=>some []
  |false=>none
 | .pt _,.pn=>some []
 | .any,_=>some []
 | .kd,.kd _ _=>some []
 | .kd,.int .i64 e=>match e.con with
  |some _=>some []
  |none=>none
 | .int .i64,.kd _ _=>some []
 |_,_=>none
def Ge:A7->Bool
 | .boolu| .any=>true
 |_=>false
def Gm:A7->Bool
 | .kd=>true
 |_=>false
def DG(p:A7)(c:SC):SC:=match Ge p with
 |true=>.un
 |false=>match Gm p with
  |true=>I3 c
  |false=>Fq c
def Hz(T:Ar)(st:St):List A7->List SC->Option (List Nat)
 |[],[]=>some []
 |p::ps,c::cs=>match VC T st p c,Hz T st ps cs with
  |some g,some gs=>some (g++gs)
  |_,_=>none
 |_,_=>none
def Bd:List A7->List SC->List SC
 |p::ps,c::cs=>DG p c::Bd ps cs
 |_,_=>[]
def L1:List Nat->Bool
 |[]=>true
 |g::gs=>!(gs.any (Nat.beq g))&&L1 gs
def D5(bs:List (Option Nat)):Prop:=bs.Pairwise λa b=>∀c,a=some c->b≠some c
def Rk(v:Val)(st:St)(gs:List Nat)(bs:List (Option Nat)):Prop:=∀b,some b∈bs->∃g∈gs,v.β g=some b/\∃q,(g,q)∈st.own
section
variable{P:Program}{T:Ar}{X:Cx}{nt:Nat}{v v':Val}{st st':St}{a:Act}{w w':World}{k k':Nat}
theorem Aal(e:Nat):Cd T e []= .zero:=by
 simp only[Cd,Sm.zero,DS,Az,Bi,Asu];rfl
variable{x:Value}
theorem Art(hp:Hp T X v st w){p:A7}{gs:List Nat}(h:VC T st p c=some gs)(hx:DC T v c x):
 ∃o,PV T w v.M v.A p x (sem T v (DG p c)) o/\(By p=true->((o=none/\gs=[])\/∃g q,gs=[g]/\v.β g=o/\(g,q)∈st.own))/\(By p=false->gs=[]):=by
 have no:∀{p:A7},By p=false->([]:List Nat)=[]:=λ_=>rfl;unfold VC at h;split at h
 ·rename_i k k' e;split at h<;>cases h;rename_i hk;have hk:k=k':=by simpa using hk
  subst hk;exact⟨none,⟨rfl,hx.1,hx.2⟩,λh=>by simp[By]at h,λ_=>rfl⟩
 ·cases h;exact⟨none,⟨rfl,hx.1,hx.2⟩,λh=>by simp[By]at h,λ_=>rfl⟩
 ·rename_i b e;split at h
  ·rename_i c hc;split at h<;>cases h;rename_i hz;have:=Hy hz;have he:=Fc hc v.ρ;have hb:e.ev v.ρ=Dr b:=by omega
   obtain⟨h1,rfl⟩:=hx;refine⟨none,⟨?_,?_⟩,λh=>by simp[By]at h,λ_=>rfl⟩
   ·simp[DG,Ge,Gm,Fq,sem,Bv,hb]
   ·rw[hb];cases b<;>simp[Dr]
  ·cases h
 ·cases h;exact⟨none,⟨rfl,_,hx.2⟩,λh=>by simp[By]at h,λ_=>rfl⟩
 ·cases h;obtain⟨t,rfl,_⟩:=hx;exact⟨none,⟨rfl,_,rfl⟩,λh=>by simp[By]at h,λ_=>rfl⟩
 ·cases h;exact⟨none,⟨rfl,hx⟩,λh=>by simp[By]at h,λ_=>rfl⟩
 ·cases h;exact⟨none,⟨rfl,tagS,hx,rfl,by decide⟩,λh=>by simp[By]at h,λ_=>rfl⟩
 ·cases h;exact⟨none,⟨rfl,hx⟩,λh=>by simp[By]at h,λ_=>rfl⟩
 ·cases h;exact⟨none,⟨rfl,hx⟩,λh=>by simp[By]at h,λ_=>rfl⟩
 ·rename_i e e' i n m d o;split at h<;>cases h;rename_i hs;obtain⟨h1,⟨aa,cap,rfl,h2,h3⟩,h4,h5,h6,_⟩:=hx;refine⟨none,⟨⟨e,(v.δ i).l,(v.δ i).b,(v.δ i).o⟩,rfl,⟨aa,cap,rfl,h2,h3.imp id λ⟨h7,h8,h9,h10⟩=>⟨h7,h8,h9,by rw[h1]at h10;exact NW hs h10⟩⟩,?_⟩,λh=>by simp[By]at h,λ_=>rfl⟩;simp only[DG,Ge,Gm,Fq,sem,Cd,h4,h5,h6,h1,J7 hs,NX hs,Abq (λl=>J7 (T:=T) hs (l:=l))]
 ·cases h;cases hx;refine⟨none,⟨⟨_,[],0,0⟩,rfl,⟨none,0,rfl,AW _,.inl V⟩,?_⟩,λh=>by simp[By]at h,λ_=>rfl⟩;rw[Aal];rfl
 ·rename_i e e' ss n m d;split at h<;>cases h;rename_i hs;obtain⟨⟨b,o,aa,cap,rfl,h2,h3⟩,h4,h5,h6⟩:=hx;refine⟨none,⟨⟨e,DM ss,b,o⟩,rfl,⟨aa,cap,rfl,h2,h3.imp id λ⟨h7,h8,h9,h10⟩=>⟨h7,h8,h9,NW hs h10⟩⟩,?_⟩,λh=>by simp[By]at h,λ_=>rfl⟩;simp only[DG,Ge,Gm,Fq,sem,Cd,h4,h5,h6,J7 hs,NX hs,Abq (λl=>J7 (T:=T) hs (l:=l))];simp[DM]
 ·cases h;cases hx;refine⟨none,⟨⟨⟨_,[],0,0⟩,rfl,⟨none,0,rfl,AW _,.inl V⟩,?_⟩,rfl⟩,λ_=>.inl ⟨rfl,rfl⟩,λh=>by simp[By]at h⟩;rw[Aal];rfl
 ·rename_i el e e' i n m d g;split at h
  ·rename_i el' e2 nn hg;split at h<;>cases h;rename_i hb;simp only[Aq]at hb;have b1:=AH hb.1.1.1;have b2:=AH hb.1.1.2;have b3:=AH hb.1.2;have b4:=Dp hb.2;subst b4;subst b2;have hm:=Eh hg;have hok:=(hp.own _ hm).1;obtain⟨h1,hL,h4,h5,h6,h7⟩:=hx;have hoa:=h7 g rfl;have hS:(sem T v (DG (.own el' e) (.fz e' i nn m d (some g))))=Cd T e (v.δ i).l:=by
    simp only[DG,Ge,Gm,Fq,sem,Cd,h4,h5,h6,h1,b1]
   refine⟨v.β g,⟨⟨v.δ i,by rw[h1,b1],hL,hS⟩,?_⟩,λ_=>.inr ⟨g,_,rfl,rfl,hm⟩,λh=>by simp[By]at h⟩;rw[hS];cases hβ:v.β g with
   |none=>rw[hβ]at hoa;exact hoa
   |some b=>
    rw[hβ]at hoa;obtain⟨n',rfl⟩:=hoa;rcases hok with h0|⟨b',cs,e1,e2',e3,e4,e5,e6,e7,_⟩
    ·simp only at h0;rw[hβ]at h0;cases h0
    ·simp only at e1 e2' e3 e4 e5 e6;rw[hβ]at e1;cases e1;rw[b3]at e3 e6;refine⟨n',_,cs,rfl,e2',e3,?_,e5,?_,e7⟩
     ·simp only[Cd];rw[<-h4];exact e4
     ·intro o y hy;simp only[Cd];rw[<-h4];exact e6 o y hy
  ·cases h
 ·rename_i k k' n;split at h<;>cases h;rename_i hk;have hk:k=k':=by simpa using hk
  subst hk;obtain⟨j,h1,h2⟩:=hx;refine⟨none,⟨j,?_,h2⟩,λh=>by simp[By]at h,λ_=>rfl⟩;simp[DG,Ge,Gm,Fq,sem,Bv,h1]
 ·cases h;cases hx;refine⟨none,⟨0,rfl,none,0,rfl,Ay _,AW _,.inl ⟨rfl,rfl⟩⟩,λh=>by simp[By]at h,λ_=>rfl⟩
 ·rename_i e e' m d;split at h<;>cases h;rename_i he;have he:=AH he;subst he;obtain⟨cv,h1,h2,h3⟩:=hx;refine⟨none,⟨cv,h1,?_⟩,λh=>by simp[By]at h,λ_=>rfl⟩;simp[DG,Ge,Gm,Fq,sem,h2,h3]
 ·cases h;cases hx;refine⟨none,⟨.pn,by simp only[RepC],?_⟩,λh=>by simp[By]at h,λ_=>rfl⟩;simp[DG,Ge,Gm,Fq,sem,Sm.zero,Bl,Df]
 ·cases h;exact⟨none,⟨rfl,DC.one hx⟩,λh=>by simp[By]at h,λ_=>rfl⟩
 ·cases h;obtain⟨h1,h2,h3⟩:=hx;exact⟨none,⟨by simp[DG,Ge,Gm,I3,sem,h3],h1,h2⟩,λh=>by simp[By]at h,λ_=>rfl⟩
 ·rename_i e;split at h<;>cases h;rename_i n hn;obtain⟨h1,h2⟩:=hx;have hc:=Fc hn v.ρ;rw[hc]at h1 h2;refine⟨none,⟨?_,?_,?_⟩,λh=>by simp[By]at h,λ_=>rfl⟩<;>simp[DG,Ge,Gm,I3,hn,sem,h1,h2]
 ·cases h;obtain⟨h1,h2,h3⟩:=hx;exact⟨none,⟨by simp[DG,Ge,Gm,Fq,sem,Bv],h1,h2⟩,λh=>by simp[By]at h,λ_=>rfl⟩
 ·cases h
theorem Nu(hp:Hp T X v st w):∀{ps:List A7}{cs:List SC}{xs:List Value}{gs:List Nat},Hz T st ps cs=some gs->All2 (DC T v) cs xs->
 ∃os,PVs T w v.M v.A ps xs ((Bd ps cs).map (sem T v)) os/\Rk v st gs (B8 ps os)/\(L1 gs=true->D5 (B8 ps os))/\(Bd ps cs).length=cs.length
 |[],[],xs,gs,h,hx=>by
  simp only[Hz]at h;cases h;cases xs
  ·exact⟨[],trivial,λb hb=>by simp[B8]at hb,λ_=>List.Pairwise.nil,rfl⟩
  ·exact hx.elim
 |p::ps,c::cs,xs,gs,h,hx=>by
  cases xs with
  |nil=>exact hx.elim
  |cons x xs=>
   simp only[Hz]at h;split at h
   ·rename_i g1 g2 h1 h2;cases h;obtain⟨o,a1,a2,a3⟩:=Art hp h1 hx.1;obtain⟨os,b1,b2,b3,b4⟩:=Nu hp h2 hx.2;refine⟨o::os,⟨a1,b1⟩,?_,?_,by simp[Bd,b4]⟩
    ·intro b hb;simp only[B8]at hb;split at hb
     ·rename_i hpo;rcases Ao.1 hb with hb|hb
      ·rcases a2 hpo with⟨h3,_⟩|⟨g,q,rfl,h4,h5⟩
       ·rw[h3]at hb;cases hb
       ·exact⟨g,by simp,by rw[h4,hb],q,h5⟩
      ·obtain⟨g,h3,h4⟩:=b2 b hb;exact⟨g,by simp[h3],h4⟩
     ·obtain⟨g,h3,h4⟩:=b2 b hb;exact⟨g,by simp[h3],h4⟩
    ·intro hn;simp only[B8];split
     ·rename_i hpo;rcases a2 hpo with⟨h3,rfl⟩|⟨g,q,rfl,h4,h5⟩
      ·refine List.Pairwise.cons ?_ (b3 hn);intro b _ c hc;rw[h3]at hc;cases hc
      ·simp only[CL,Dh,L1,Aq,JF]at hn;refine List.Pairwise.cons ?_ (b3 hn.2);intro b hb c hc hbc;subst hbc;obtain⟨g',h6,h7,q',h8⟩:=b2 c hb;have:=hp.ownU _ h5 _ h8 c (by rw[h4,hc]) h7;simp only at this;subst this;have h9:=hn.1;simp only[List.any_eq_false]at h9;exact h9 g h6 (KG g)
     ·rename_i hpo;have:=a3 hpo;subst this;exact b3 hn
   ·cases h
 |[],_::_,_,_,h,_=>by simp only[Hz]at h;cases h
 |_::_,[],_,_,h,_=>by simp only[Hz]at h;cases h
end
inductive PA where
 |one (p:A7)
 |agg (l:List A7)
def PA.pats:PA->List A7
 | .one p=>[p]
 | .agg l=>l
def BQ(l:List PA):List A7:=(l.map PA.pats).flatten
structure Hh where
 res:List PA
 mem:List (Option A7)
 facts:List Tm
structure Con where
 ref:Option (Nat×List A7)
 args:List PA
 facts:List Tm
 layer:Nat
 meas:Tm
 posts:List Hh
def Con.pats(c:Con):List A7:=(match c.ref with|some (_,l)=>l|none=>[])++BQ c.args
def KJ:PA->Value->List Value->Prop
 | .one _,x,cs=>cs=[x]
 | .agg l,x,cs=>x= .agg cs.toArray/\cs.length=l.length
def PAVs:List PA->List Value->List (List Value)->Prop
 |[],[],[]=>True
 |p::ps,x::xs,c::cs=>KJ p x c/\PAVs ps xs cs
 |_,_,_=>False
structure WOK(w:World)(M:AT)(A:AV):Prop where
 hM:∀b o x,M b o=some x->w.cell? ⟨b,o,none⟩=some x/\A b=none/\x.oneCell'=true
 hA:∀b k sz,A b=some (k,sz)->LU w b k sz
structure FraM(B:Nat->Prop)(w:World)(M:AT)(A:AV)(w':World)(M':AT)(A':AV):Prop where
 os:w'.os=w.os
 tape:w'.tape=w.tape
 output:w'.output=w.output
 size:w.heap.size<=w'.heap.size
 blk:∀b,b<w.heap.size->¬B b->A b=none->w'.heap[b]? =w.heap[b]?
 M:∀b o x,M' b o=some x->M b o=some x\/B b\/w.heap.size<=b
 A:∀b x,A' b=some x->A b=some x\/w.heap.size<=b
structure RefB(w:World)(M:AT)(A:AV)(t b:Nat)(cs:List Value):Prop where
 blk:Blk w b cs t
 one:∀c∈cs,c.oneCell'=true
 M:∀o,M b o=none
 A:A b=none
structure KA(T:Ar)(w:World)(M:AT)(A:AV)(con:Con)(xs:List Value)(S:List Sm)(rb:Option Nat)(rcs:List Value)(css:List (List Value))(os:List (Option Nat)):Prop where
 wok:WOK w M A
 args:match con.ref with
  |none=>PAVs con.args xs css/\rcs=[]/\rb=none
  |some (t,l)=>∃b xs',xs= .pointer (some ⟨b,0,none⟩)::xs'/\rb=some b/\RefB w M A t b rcs/\PAVs con.args xs' css
 vals:PVs T w M A con.pats (rcs++css.flatten) S os
 sep:D5 (rb::B8 con.pats os)
 facts:∀t∈con.facts,0<=t.den S
def Eo(rb:Option Nat)(bs:List (Option Nat))(b:Nat):Prop:=rb=some b\/some b∈bs
def Alike(x y:Value):Prop:=x=y\/∃a n cap a' cap',x= .slice a n cap/\y= .slice a' n cap'/\(n=0\/a=a'/\n<=cap'/\cap'<=maxLen)
def Np:SC->Bool
 | .int _ _| .bool _| .fz _ _ _ _ _ none| .kd _ _=>true
 |_=>false
def keepB:List (Option A7)->List SC->Bool
 |none::ps,c::cs=>Np c&&keepB ps cs
 |some p::ps,_::cs=>!By p&&keepB ps cs
 |_,_=>true
variable{x:Value}
theorem Alike.DC{y:Value}(hk:Np c=true)(h:Alike x y)(hx:DC T v c x):DC T v c y:=by
 rcases h with rfl|⟨a,n,cap,a',cap',rfl,rfl,h⟩
 ·exact hx
 ·cases c<;>simp only[Np]at hk
  case int=>cases hx.1
  case kd=>cases hx.1
  case bool=>cases hx.2
  case fz e i nn m d o=>
   cases o with
   |some g=>cases hk
   |none=>
    obtain⟨h1,⟨a0,c0,h2,h3,h4⟩,h5,h6,h7,_⟩:=hx;cases h2;refine⟨h1,⟨a',cap',rfl,h3,?_⟩,h5,h6,h7,by simp⟩;rcases h4 with h4|⟨rfl,h8,h9,h10⟩
    ·exact .inl h4
    ·rcases h with h|⟨rfl,h11,h12⟩
     ·exact .inl (E2 h)
     ·exact .inr ⟨rfl,h11,h12,h10⟩
  all_goals cases hk
theorem Alike.of{v':Val}(hxt:Ext k v v')(hc:c.ok k=true){y:Value}(hk:Np c=true)(hx:Go.Ck.DC T v c x)(hy:Go.Ck.DC T v' c y):Alike x y:=by
 replace hx:=Go.Ck.DC.ext hxt hc hx;cases c<;>simp only[Np]at hk
 case int=>exact .inl (hx.1.trans hy.1.symm)
 case kd=>exact .inl (hx.1.trans hy.1.symm)
 case bool=>exact .inl (hx.2.trans hy.2.symm)
 case fz e i nn m d o=>
  cases o with
  |some g=>cases hk
  |none=>
   obtain⟨_,⟨a,cap,rfl,_,h4⟩,_⟩:=hx;obtain⟨_,⟨a',cap',rfl,_,h4'⟩,_⟩:=hy;right;refine⟨a,_,cap,a',cap',rfl,rfl,?_⟩;rcases h4 with h4|⟨rfl,_,_,_⟩
   ·left;rw[h4];rfl
   ·rcases h4' with h4'|⟨rfl,h5,h6,_⟩
    ·left;rw[h4'];rfl
    ·exact .inr ⟨rfl,h5,h6⟩
 all_goals cases hk
def KF(T:Ar)(w:World)(M:AT)(A:AV):List (Option A7)->List Value->List Value->List Sm->Prop
 |[],[],[],[]=>True
 |none::ps,c::cs,d::ds,S=>Alike c d/\KF T w M A ps cs ds S
 |some p::ps,_::cs,d::ds,s::S=>PV T w M A p d s none/\By p=false/\KF T w M A ps cs ds S
 |_,_,_,_=>False
def OE(l:List PA)(r:Value)(css:List (List Value)):Prop:=match l with
 |[p]=>∃c,css=[c]/\KJ p r c
 |l=>∃xs:List Value,r= .tuple xs.toArray/\PAVs l xs css
structure Fw(T:Ar)(w:World)(M:AT)(A:AV)(con:Con)(S:List Sm)(rb:Option Nat)(rcs:List Value)(os:List (Option Nat))(post:Hh)(r:Value)(w':World)(M':AT)(A':AV)(Y Z:List Sm)(rcs':List Value)
 (css:List (List Value)) (ros:List (Option Nat)):Prop where
 mle:DD M M'
 ale:Fb A A'
 wok:WOK w' M' A'
 fra:FraM (Eo rb (B8 con.pats os)) w M A w' M' A'
 res:OE post.res r css
 vals:PVs T w' M' A' (BQ post.res) css.flatten Y ros
 mem:match con.ref with
  |none=>Z=[]/\rcs'=[]
  |some (t,_)=>∃b,rb=some b/\RefB w' M' A' t b rcs'/\KF T w' M' A' post.mem rcs rcs' Z
 sep:D5 (rb::B8 (BQ post.res) ros)
 own:∀b,some b∈B8 (BQ post.res) ros->Eo none (B8 con.pats os) b\/w.heap.size<=b
 facts:∀t∈post.facts,0<=t.den (S++Y++Z)
def Hd(P:Program)(T:Ar)(f:FuncId)(con:Con)(ok:Int->Prop):Prop:=
 ∀(w:World) (M:AT) (A:AV) (xs:List Value) (S:List Sm) (rb:Option Nat) (rcs:List Value) (css:List (List Value)) (os:List (Option Nat)),KA T w M A con xs S rb rcs css os->ok (con.meas.den S)->
  Calls P f xs.toArray w (Go.Sx.End (λr w'=>∃post∈con.posts,∃M' A' Y Z rcs' css' ros,Fw T w M A con S rb rcs os post r w' M' A' Y Z rcs' css' ros) λ_ _=>False)
def Lz(gs:List LE)(e:LE):List LE:=match BF gs 2 e with
 |true=>[e.addk (-1)]
 |false=>match BF gs 2 e.neg with
  |true=>[e.neg.addk (-1)]
  |false=>[]
def WP(gs:List LE):SC->Option (List LE×List LE)
 | .bool e=>some ([e.addk (-1),.addk e.neg 1],[e,e.neg])
 | .cmp (.ge e)=>some ([e],[e.neg.addk (-1)])
 | .cmp (.eq e)=>some ([e,e.neg],Lz gs e)
 | .cmp (.ne e)=>some (Lz gs e,[e,e.neg])
 | .cmp (.sq e)=>some ([e,e.neg],[])
 | .cmp (.sn e)=>some ([],[e,e.neg])
 | .cmp (.kq e q)=>some ([e,e.neg,q,q.neg],Lz gs e)
 | .cmp (.kn e q)=>some (Lz gs e,[e,e.neg,q,q.neg])
 |_=>none
def At6:List (Nat×Int)->Bool
 |[]|[_]|[_,_]=>true
 |_=>false
def Ae6:Int->Bool
 | .negSucc n=>Nat.ble 1000000000000000000 n
 |_=>false
def ME(gs fs:List LE):Bool:=fs.any λf=>match At6 f.l||Ae6 f.c with
 |true=>BF gs 2 (.addk f.neg (-1))
 |false=>false
def LL(f:LE):Bool:=match f.l with
 |[]=>false
 |_=>true
def Hm(st:St)(fs:List LE):Option (List St):=match ME st.facts fs with
 |true=>some []
 |false=>match fs.all (LE.ok st.next)with
  |true=>some [{st with facts:=fs.filter LL++st.facts,rows:=[]++st.rows,pres:=[]++st.pres,rix:=[]++st.rix,next:=st.next}]
  |false=>none
def KV(st:St)(c:SC):Option (List St×List St):=match WP st.facts c with
 |some (t,f)=>match Hm st t,Hm st f with
  |some a,some b=>some (a,b)
  |_,_=>none
 |none=>none
section
variable{P:Program}{T:Ar}{X:Cx}{nt:Nat}{v v':Val}{st st':St}{a:Act}{w w':World}{k k':Nat}
variable{l:List St}{fs:List LE}
theorem Awi(hp:Hp T X v st w)(hr:Hm st fs=some l)(hf:Holds v.ρ fs):∃st'∈l,Hp T X v st' w/\st'.next=st.next/\st'.env=st.env/\st'.mem=st.mem/\st'.own=st.own:=by
 unfold Hm at hr;split at hr
 ·rename_i hd;exfalso;simp only[ME,Md]at hd;obtain⟨f,h1,h2⟩:=hd;have h2:BF st.facts 2 (.addk f.neg (-1))=true:=by
   split at h2
   ·exact h2
   ·cases h2
  have:=BU hp.facts _ _ h2;have:=hf f h1;simp only[LE.addk_ev,LE.neg_ev]at*;omega
 ·split at hr<;>cases hr;rename_i ho;simp only[Bg]at ho;exact⟨_,DT.2 V,hp.pure (Ext.refl _ _) V V (fs.filter LL) [] [] [] st.next (Ay _) (λf hfm=>hf f (IF.1 hfm).1) (λf hfm=>ho f (IF.1 hfm).1) (by simp) (by simp) (by simp),rfl,rfl,rfl,rfl⟩
def L7(st:St)(fs:List LE):Option (List St):=match ME st.facts fs with
 |true=>some []
 |false=>some [st]
theorem Wd(hp:Hp T X v st w)(hr:L7 st fs=some l)(hf:Holds v.ρ fs):∃st'∈l,Hp T X v st' w/\st'.next=st.next/\st'.env=st.env/\st'.mem=st.mem/\st'.own=st.own:=by
 unfold L7 at hr;split at hr
 ·rename_i hd;exfalso;simp only[ME,Md]at hd;obtain⟨f,h1,h2⟩:=hd;have h2:BF st.facts 2 (.addk f.neg (-1))=true:=by
   split at h2
   ·exact h2
   ·cases h2
  have:=BU hp.facts _ _ h2;have:=hf f h1;simp only[LE.addk_ev,LE.neg_ev]at*;omega
 ·cases hr;exact⟨st,by simp,hp,rfl,rfl,rfl,rfl⟩
theorem KT(h:Den T X nt v st a w)(hr:Hm st fs=some l)(hf:Holds v.ρ fs):∃st'∈l,Den T X nt v st' a w/\st'.next=st.next/\st'.env=st.env/\st'.mem=st.mem/\st'.own=st.own:=by
 unfold Hm at hr;split at hr
 ·rename_i hd;exfalso;simp only[ME,Md]at hd;obtain⟨f,h1,h2⟩:=hd;have h2:BF st.facts 2 (.addk f.neg (-1))=true:=by
   split at h2
   ·exact h2
   ·cases h2
  have:=BU h.hp.facts _ _ h2;have:=hf f h1;simp only[LE.addk_ev,LE.neg_ev]at*;omega
 ·split at hr<;>cases hr;rename_i ho;simp only[Bg]at ho;refine⟨_,DT.2 V,⟨h.size,h.defers,h.env,?_⟩,rfl,rfl,rfl,rfl⟩;exact h.hp.pure (Ext.refl _ _) V V (fs.filter LL) [] [] [] st.next (Ay _) (λf hfm=>hf f (IF.1 hfm).1) (λf hfm=>ho f (IF.1 hfm).1) (by simp) (by simp) (by simp)
theorem Qt{gs:List LE}(hg:Holds v.ρ gs){e:LE}(h:e.ev v.ρ≠0):Holds v.ρ (Lz gs e):=by
 unfold Lz;split
 ·rename_i hp;have:=BU hg _ _ hp;intro f hf;simp only[Ao,AB,or_false]at hf;subst hf;simp only[LE.addk_ev];omega
 ·split
  ·rename_i hp;have:=BU hg _ _ hp;intro f hf;simp only[Ao,AB,or_false]at hf;subst hf;simp only[LE.addk_ev,LE.neg_ev]at*;omega
  ·simp[Holds]
theorem Avc{gs:List LE}(hg:Holds v.ρ gs){t f:List LE}(h:WP gs c=some (t,f))(hx:DC T v c x):∃b,x= .bool b/\(b=true->Holds v.ρ t)/\(b=false->Holds v.ρ f):=by
 have two:∀{e:LE},e.ev v.ρ=0->Holds v.ρ [e,e.neg]:=by
  intro e he f hf;simp only[Ao,AB,or_false]at hf;rcases hf with rfl|rfl
  ·omega
  ·simp only[LE.neg_ev];omega
 unfold WP at h;split at h<;>cases h
 ·rename_i e;obtain⟨h1,rfl⟩:=hx;refine⟨_,rfl,λhb f hf=>?_,λhb=>two ?_⟩
  ·simp only[decide_eq_true_eq]at hb;simp only[Ao,AB,or_false]at hf;rcases hf with rfl|rfl<;>simp only[LE.addk_ev,LE.neg_ev]<;>omega
  ·simp only[decide_eq_false_iff_not]at hb;omega
 ·rename_i e;obtain⟨b,rfl,h1⟩:=hx;simp only[BE.rel]at h1;refine⟨b,rfl,λhb f hf=>?_,λhb f hf=>?_⟩
  ·simp only[Ao,AB,or_false]at hf;subst hf;exact h1.1 hb
  ·simp only[Ao,AB,or_false]at hf;subst hf;have:¬0<=e.ev v.ρ:=λh2=>by rw[h1.2 h2]at hb;cases hb
   simp only[LE.addk_ev,LE.neg_ev];omega
 ·rename_i e;obtain⟨b,rfl,h1⟩:=hx;simp only[BE.rel]at h1;exact⟨b,rfl,λhb=>two (h1.1 hb),λhb=>Qt hg (λh2=>by rw[h1.2 h2]at hb;cases hb)⟩
 ·rename_i e;obtain⟨b,rfl,h1⟩:=hx;simp only[BE.rel]at h1;exact⟨b,rfl,λhb=>Qt hg (λh2=>by rw[h1.2 h2]at hb;cases hb),λhb=>two (h1.1 hb)⟩
 ·rename_i e;obtain⟨b,rfl,h1⟩:=hx;exact⟨b,rfl,λhb=>two (h1 hb),λ_=>by simp[Holds]⟩
 ·rename_i e;obtain⟨b,rfl,h1⟩:=hx;exact⟨b,rfl,λ_=>by simp[Holds],λhb=>two (h1 hb)⟩
 ·rename_i e q;obtain⟨b,rfl,h1⟩:=hx;have app:∀{e q:LE},e.ev v.ρ=0/\q.ev v.ρ=0->Holds v.ρ [e,e.neg,q,q.neg]:=λh=>by
   intro f hf;rcases B3.1 (show f∈[_,_]++[_,_]from hf)with hf|hf
   ·exact two h.1 f hf
   ·exact two h.2 f hf
  exact⟨b,rfl,λhb=>app (h1.1 hb),λhb=>Qt hg (h1.2 hb)⟩
 ·rename_i e q;obtain⟨b,rfl,h1⟩:=hx;have app:∀{e q:LE},e.ev v.ρ=0/\q.ev v.ρ=0->Holds v.ρ [e,e.neg,q,q.neg]:=λh=>by
   intro f hf;rcases B3.1 (show f∈[_,_]++[_,_]from hf)with hf|hf
   ·exact two h.1 f hf
   ·exact two h.2 f hf
  exact⟨b,rfl,λhb=>Qt hg (h1.2 hb),λhb=>app (h1.1 hb)⟩
theorem OU(h:Den T X nt v st a w){ts fs:List St}(hr:KV st c=some (ts,fs))(hx:DC T v c x):
 ∃b,x= .bool b/\∃st'∈(match b with|true=>ts|false=>fs),Den T X nt v st' a w/\st'.next=st.next/\st'.env=st.env/\st'.mem=st.mem/\st'.own=st.own:=by
 unfold KV at hr;split at hr
 ·rename_i t f ht;split at hr<;>cases hr;rename_i h1 h2;obtain⟨b,rfl,h3,h4⟩:=Avc h.hp.facts ht hx;refine⟨b,rfl,?_⟩;cases b with
  |true=>exact KT h h1 (h3 V)
  |false=>exact KT h h2 (h4 V)
 ·cases hr
theorem Den.setEnv(h:Den T X nt v st a w){i:Nat}{e:EV}(hv:∃x,a.tmps[i]? =some x/\DE T v e x)(ho:e.ok st.next=true):Den T X nt v {st with env:=(i,e)::st.env} a w:=by
 refine⟨h.size,h.defers,?_,h.hp.env _⟩;intro j e' hj;simp only[Ck.get_nil,Ck.get_cons]at hj;split at hj
 ·rename_i hb;cases hj;rw[<-AH hb];obtain⟨x,h1,h2⟩:=hv;exact⟨x,h1,h2,ho⟩
 ·exact h.env j e' hj
def MR(ms:List (Nat×List LE)):List (Nat×Int)->Option (Nat×List LE)
 |[]=>none
 |(s,k)::r=>match ES (k+1)with
  |true=>match Ck.get ms s with
   |some l=>some (s,l)
   |none=>MR ms r
  |false=>MR ms r
def N9(st:St):Nat->LE->Bool
 |0,e=>BF st.facts 17 e
 |f+1,e=>BF st.facts 17 e||match MR st.maxs e.l with
  |some (s,l)=>N9 st f (.add e (.s s))&&l.all λq=>N9 st f (.sub (.add e (.s s)) q)
  |none=>false
theorem TB{ms:List (Nat×List LE)}:∀{r:List (Nat×Int)}{s:Nat}{l:List LE},MR ms r=some (s,l)->(s,l)∈ms
 |(u,k)::r,s,l,h=>by
  simp only[MR]at h;split at h
  ·split at h
   ·rename_i hg;cases h;exact Eh hg
   ·exact TB h
  ·exact TB h
theorem Wc(hp:Hp T X v st w):∀(f:Nat) (e:LE),N9 st f e=true->0<=e.ev v.ρ
 |0,e,h=>BU hp.facts _ _ h
 |f+1,e,h=>by
  simp only[N9,HM]at h;rcases h with h|h
  ·exact BU hp.facts _ _ h
  ·split at h
   ·rename_i s l hm;simp only[Aq,Bg]at h;have h1:=Wc hp f _ h.1;simp only[LE.add_ev,LE.s_ev]at h1;rcases(hp.maxs _ (TB hm)).1 with h2|⟨q,h2,h3⟩
    ·simp only at h2;omega
    ·simp only at h3;have h4:=Wc hp f _ (h.2 q h2);simp only[LE.add_ev,LE.sub_ev,LE.s_ev]at h4;omega
   ·cases h
def Ix(vec:List SC):List Tm->St->Option St
 |[],st=>some st
 |t::ts,st=>match t.ev vec st with
  |some (e,st1)=>match N9 st1 4 e with
   |true=>Ix vec ts st1
   |false=>none
  |none=>none
theorem Q3{vec:List SC}:∀{ts:List Tm}{u:Val}{st st':St},Hp T X u st w->vec.all (SC.ok st.next)=true->(∀c∈vec,∃x,DC T u c x)->Ix vec ts st=some st'->
 ∃v',Grew T X u st w v' st'/\∀t∈ts,0<=t.den (vec.map (sem T u))
 |[],u,st,st',hp,_,_,h=>by
  simp only[Ix]at h;cases h;exact⟨u,Grew.refl hp,by simp⟩
 |t::ts,u,st,st',hp,ho,hc,h=>by
  simp only[Ix]at h;split at h
  ·rename_i e st1 h1;split at h
   ·rename_i hpr;obtain⟨v1,g1,h2,h3⟩:=Hj t hp ho hc h1;have h4:=Wc g1.hp _ _ hpr;have ho':=ho;simp only[Bg]at ho';obtain⟨v2,g2,h5⟩:=Q3 g1.hp (SCs.ok_mono g1.next ho) (λc hcm=>by obtain⟨x,hx⟩:=hc c hcm;exact⟨x,DC.ext g1.ext (ho' c hcm) hx⟩) h;have hm:vec.map (sem T v1)=vec.map (sem T u):=O5 λc hcm=>Ky g1.ext (ho' c hcm);refine⟨v2,g1.trans g2,?_⟩;intro t' ht;rcases Ao.1 ht with rfl|ht
    ·rw[<-h3];exact h4
    ·rw[<-hm];exact h5 t' ht
   ·cases h
  ·cases h
def J9(vec:List SC):List Tm->St->Option (List LE×St)
 |[],st=>some ([],st)
 |t::ts,st=>match t.ev vec st with
  |some (e,st1)=>match J9 vec ts {st1 with facts:=[e].filter LL++st1.facts,rows:=[]++st1.rows,pres:=[]++st1.pres,rix:=[]++st1.rix,next:=st1.next}with
   |some (es,st2)=>some (e::es,st2)
   |none=>none
  |none=>none
theorem QH{vec:List SC}:∀{ts:List Tm}{u:Val}{st st':St}{es:List LE},Hp T X u st w->vec.all (SC.ok st.next)=true->(∀c∈vec,∃x,DC T u c x)->J9 vec ts st=some (es,st')->
 (∀t∈ts,0<=t.den (vec.map (sem T u)))->∃v',Grew T X u st w v' st'/\Holds v'.ρ es/\∀e∈es,e.ok st'.next=true
 |[],u,st,st',es,hp,_,_,h,_=>by
  simp only[J9]at h;cases h;exact⟨u,Grew.refl hp,by simp[Holds],by simp⟩
 |t::ts,u,st,st',es,hp,ho,hc,h,hd=>by
  simp only[J9]at h;split at h
  ·rename_i e st1 h1;split at h<;>cases h;rename_i es' h2;obtain⟨v1,g1,h3,h4⟩:=Hj t hp ho hc h1;have ho':=ho;simp only[Bg]at ho';have hm:vec.map (sem T v1)=vec.map (sem T u):=O5 λc hcm=>Ky g1.ext (ho' c hcm);have hadd:Grew T X v1 st1 w v1 {st1 with facts:=[e].filter LL++st1.facts,rows:=[]++st1.rows,pres:=[]++st1.pres,rix:=[]++st1.rix,next:=st1.next}:=
    ⟨Ext.refl _ _,rfl,rfl,Ay _,rfl,rfl,rfl,rfl,g1.hp.pure (Ext.refl _ _) rfl rfl ([e].filter LL) [] [] [] st1.next (Ay _) (λf hf=>by
     have:=(IF.1 hf).1;simp only[Ao,AB,or_false]at this;subst this;rw[h4];exact hd t (by simp)) (λf hf=>by
     have:=(IF.1 hf).1;simp only[Ao,AB,or_false]at this;subst this;exact h3) (by simp) (by simp) (by simp)⟩
   obtain⟨v2,g2,h5,h6⟩:=QH hadd.hp (SCs.ok_mono g1.next ho) (λc hcm=>by obtain⟨x,hx⟩:=hc c hcm;exact⟨x,DC.ext g1.ext (ho' c hcm) hx⟩) h2 (λt' ht=>by rw[hm];exact hd t' (by simp[ht]));refine⟨v2,g1.trans (hadd.trans g2),?_,?_⟩
   ·intro f hf;rcases Ao.1 hf with rfl|hf
    ·rw[Bj g2.ext.ρ h3,h4];exact hd t (by simp)
    ·exact h5 f hf
   ·intro f hf;rcases Ao.1 hf with rfl|hf
    ·exact LE.ok_mono g2.next h3
    ·exact h6 f hf
  ·cases h
theorem Grew.den(h:Den T X nt v st a w)(g:Grew T X v st w v' st'):Den T X nt v' st' a w:=by
 refine⟨h.size,h.defers,?_,g.hp⟩;intro i e hi;rw[g.env]at hi;obtain⟨x,h1,h2,h3⟩:=h.env i e hi;exact⟨x,h1,DE.ext g.ext h3 h2,EV.ok_mono g.next h3⟩
end
end Go.Ck