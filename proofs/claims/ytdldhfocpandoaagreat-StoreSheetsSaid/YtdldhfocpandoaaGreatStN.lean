import Derived.Test.YtdldhfocpandoaaGreatStA
import Derived.Orders
import Derived.Deep.Draws
import Derived.Test.YtdldhfocpandoaaGreatStI
import Derived.Test.YtdldhfocpandoaaGreatStC
set_option maxHeartbeats 8000000
set_option maxRecDepth 8000
namespace Go.Sx
def AL(P:Program)(ops:Array Oper)(Q:Exit->Act->World->Prop)(fuel:Nat)(listed:Array Bool)(n:Nat)(ds:List Deferred)(m:Env)(w:World):Prop:=
 ∀a,Loc n ds m a->wpAny P .any ops Q fuel listed a w
def Blind(Q:Exit->Act->World->Prop):Prop:=∀c a w d v,Q (.panic c) (a.put d v) w->Q (.panic c) a w
section
variable{P:Program}{ops:Array Oper}{Q:Exit->Act->World->Prop}{n:Nat}{ds:List Deferred}{m:Env}{w:World}{fuel:Nat}{listed:Array Bool}
theorem Rd{fn:Func}{R:Ending->World->Prop}:Blind (bodyPost P fn R):=by
 intro c a w d v h;cases d<;>exact h
theorem Blind.then{A:Act->World->Prop}(h:Blind Q):Blind (Exit.then A Q):=λc a w d v k=>h c a w d v k
theorem OI{id:Nat}{l:List Oper}(hm:P.follows .mixedOrders=true)
 (h:AL P l.toArray Q l.length (Array.replicate l.length false) n ds m (w.drewN 1)):W P (.region id l.toArray true) Q n ds m w:=
 λa ha=>wp_region_any hm (by have:=h a ha;rw[GF];exact this)
def J0(ops:Array Oper)(listed:Array Bool)(i:Nat):Bool:=Region.noSelect ops&&Region.free .any ops listed i&&(Region.ready .any ops listed).contains i
variable{v:Value}{o:Oper}{d i:Nat}
theorem K7(hi:ops[i]? =some o)(hok:J0 ops listed i=true)
 (hQ:Blind Q) (hg:o.guard=none) (hd:o.dst=some d) (hb:Nat.blt d n=true) (hy:∀a w,Loc n ds m a->(execOp a.eval o).run P w= .ok (.value v) w)
 (h:AL P ops Q fuel (listed.setIfInBounds i true) n ds ((d,v)::m) w):AL P ops Q (fuel+1) listed n ds m w:=by
 intro a ha;simp only[J0,Aq]at hok;obtain⟨⟨hs,hf⟩,hr⟩:=hok;refine wpAny_take hi hs hf hr (λc a w=>hQ c a w _ _) (.inl ⟨by simp[Region.wanted,hg],λw=>hy a w ha⟩) ?_;rw[hd];exact h _ (ha.put d v hb)
theorem WZ{K:Act->World->Prop}(hi:ops[i]? =some o)(h:WL P ops (Exit.then K Q) [o] n ds m w):∀a,Loc n ds m a->wpOp P ops Q i K a w:=by
 intro a ha;have h1:=h a ha;unfold wpList at h1;unfold wpOp;rw[hi];simp only;split
 ·rename_i hw;rw[if_pos hw]at h1;rcases h1 with h1|h1
  ·left;unfold Oper.wp at h1⊢;generalize(execOp a.eval o).run P w=r at h1⊢;cases r with
   |ok nx w'=>
    cases nx<;>simp only[Oper.upon]at h1⊢
    case value u=>exact h1
    case skip=>exact h1
    case defer d=>exact h1
    case enter f args=>
     refine h1.mono ?_;intro e w'' he;cases e with
     |returned u=>exact he
     |panicked c=>exact he
     |outgrown=>exact he
    case row row args=>exact Rows.mono h1 λu w'' he=>he
   |halt x w'=>
    cases x<;>simp only[Oper.upon]at h1⊢
    case panic u=>exact h1
  ·right;exact h1
 ·rename_i hw;rw[if_neg hw]at h1;exact h1
theorem Xi{rs:List Nat}(hr:Region.ready .any ops listed=rs)(hne:rs≠[])
 (h:∀i∈rs,∀a,Loc n ds m a->wpOp P ops Q i (wpAny P .any ops Q fuel (listed.setIfInBounds i true)) a w):AL P ops Q (fuel+1) listed n ds m w:=
 λa ha=>wpAny_all hr hne (λi hi=>h i hi a ha)
theorem Cp(hr:Region.ready .any ops listed=[i])(hi:ops[i]? =some o)(h:WL P ops (Exit.then (wpAny P .any ops Q fuel (listed.setIfInBounds i true)) Q) [o] n ds m w):AL P ops Q (fuel+1) listed n ds m w:=
 Xi hr (by simp) (by intro j hj;simp at hj;subst hj;exact WZ hi h)
variable{j:Nat}
theorem LS{u:Oper}(hr:Region.ready .any ops listed=[i,j])(hi:ops[i]? =some o)(hj:ops[j]? =some u)
 (h1:WL P ops (Exit.then (wpAny P .any ops Q fuel (listed.setIfInBounds i true)) Q) [o] n ds m w)
 (h2:WL P ops (Exit.then (wpAny P .any ops Q fuel (listed.setIfInBounds j true)) Q) [u] n ds m w):AL P ops Q (fuel+1) listed n ds m w:=
 Xi hr (by simp) (by
  intro k hk;simp at hk;rcases hk with rfl|rfl
  ·exact WZ hi h1
  ·exact WZ hj h2)
theorem HK(hr:Region.ready .any ops listed=[])(h:∀a,Loc n ds m a->Q .normal a w):AL P ops Q fuel listed n ds m w:=λa ha=>wpAny_done hr (h a ha) _
theorem BI(h:AL P ops Q fuel listed n ds m w):WL P ops (Exit.then (wpAny P .any ops Q fuel listed) Q) [] n ds m w:=A2 λa ha=>h a ha
end
open Go.Proofs Go.Proofs.Tryz
abbrev XW:=WS×Bool
def XW.up(x:XW):XW:=({x.1 with nest:=x.1.nest-1},x.2)
mutual
def B1(most long:Nat):T->XW->XW
 | .int n,x=>(x.1.num (C2 n),x.2)
 | .bool b,x=>(x.1.num b.toNat,x.2)
 | .str y,x=>(x.1.str y,x.2)
 | .list l,x=>Bp most long l (x.1.num l.length,x.2)
 | .nil,x=>(x.1.num 0,x.2)
 | .ptr t,x=>B1 most long t (x.1.num 1,x.2)
 | .agg sn l,x=>
  match sn.deep with
  |true=>if x.2=true\/most<x.1.nest+1\/long<x.1.b.length then(x.1,true)else(Bp most long l ({x.1 with nest:=x.1.nest+1},false)).up
  |false=>Bp most long l x
def Bp(most long:Nat):List T->XW->XW
 |[],x=>x
 |t::l,x=>Bp most long l (B1 most long t x)
end
mutual
theorem Py{most long:Nat}:∀(t:T) (x:XW),x.1.use+11*t.wt<=2 ^ 40->(B1 most long t x).1.use<=x.1.use+11*t.wt/\(B1 most long t x).1.nest=x.1.nest
 | .int n,x,hu=>by
  simp only[B1,T.wt]at*;have:=Ed (s:=x.1) (G_ n);exact⟨by omega,rfl⟩
 | .bool b,x,hu=>by
  simp only[B1,T.wt]at*;have:=Ed (s:=x.1) (n:=b.toNat) (by cases b<;>decide);exact⟨by omega,rfl⟩
 | .str y,x,hu=>by
  simp only[B1,T.wt]at*;have:=XF (s:=x.1) (x:=y) (by omega);exact⟨by omega,(Ac0 _ _).2⟩
 | .nil,x,hu=>by
  simp only[B1,T.wt]at*;have:=Ed (s:=x.1) (n:=0) (by decide);exact⟨by omega,rfl⟩
 | .ptr t,x,hu=>by
  simp only[B1,T.wt]at*;have h1:=Ed (s:=x.1) (n:=1) (by decide);have:=Py (most:=most) (long:=long) t (x.1.num 1,x.2) (by simp only;omega);simp only at this;exact⟨by omega,this.2⟩
 | .list l,x,hu=>by
  simp only[B1,T.wt]at*;have hl:=JL l;have h1:=Ed (s:=x.1) (n:=l.length) (by omega);have:=JV (most:=most) (long:=long) l (x.1.num l.length,x.2) (by simp only;omega);simp only at this;exact⟨by omega,this.2⟩
 | .agg sn l,x,hu=>by
  simp only[B1,T.wt]at*;cases hd:sn.deep with
  |false=>
   have:=JV (most:=most) (long:=long) l x (by omega);exact⟨by simp only;omega,this.2⟩
  |true=>
   simp only;split
   ·exact⟨by simp only;omega,rfl⟩
   ·have:=JV (most:=most) (long:=long) l ({x.1 with nest:=x.1.nest+1},false) (by simp only[WS.use]at*;omega);simp only[XW.up,WS.use]at*;exact⟨by omega,by omega⟩
theorem JV{most long:Nat}:∀(l:List T) (x:XW),x.1.use+11*Bf l<=2 ^ 40->(Bp most long l x).1.use<=x.1.use+11*Bf l/\(Bp most long l x).1.nest=x.1.nest
 |[],x,hu=>by refine⟨?_,?_⟩<;>simp only[Bp]<;>omega
 |t::l,x,hu=>by
  simp only[Bp,Bf]at*;have a:=Py (most:=most) (long:=long) t x (by omega);have b:=JV (most:=most) (long:=long) l (B1 most long t x) (by omega);exact⟨by omega,b.2.trans a.2⟩
end
mutual
theorem YV{most long:Nat}:∀(t:T) (s:WS),(B1 most long t (s,true)).2=true
 | .int n,s=>by simp only[B1]
 | .bool b,s=>by simp only[B1]
 | .str y,s=>by simp only[B1]
 | .nil,s=>by simp only[B1]
 | .ptr t,s=>by simp only[B1];exact YV t _
 | .list l,s=>by simp only[B1];exact Pv l _
 | .agg sn l,s=>by
  simp only[B1];split
  ·simp
  ·exact Pv l s
theorem Pv{most long:Nat}:∀(l:List T) (s:WS),(Bp most long l (s,true)).2=true
 |[],s=>by simp only[Bp]
 |t::l,s=>by
  simp only[Bp];have h:=YV (most:=most) (long:=long) t s;rw[show B1 most long t (s,true)=((B1 most long t (s,true)).1,true)from Prod.ext rfl h];exact Pv l _
end
mutual
theorem Px{most long:Nat}:∀(t:T) (s:WS),(∀s',enc most long t s=some s'->B1 most long t (s,false)=(s',false))/\(enc most long t s=none->(B1 most long t (s,false)).2=true)
 | .int n,s=>by simp[B1,enc]
 | .bool b,s=>by simp[B1,enc]
 | .str y,s=>by simp[B1,enc]
 | .nil,s=>by simp[B1,enc]
 | .ptr t,s=>by simp only[B1,enc];exact Px t (s.num 1)
 | .list l,s=>by simp only[B1,enc];exact Pw l (s.num l.length)
 | .agg sn l,s=>by
  simp only[B1,enc];cases hd:sn.deep with
  |false=>exact Pw l s
  |true=>
   simp only[FV,false_or];split
   ·simp
   ·have ih:=Pw (most:=most) (long:=long) l {s with nest:=s.nest+1};constructor
    ·intro s' h;simp only[BG]at h;obtain⟨u,hu,rfl⟩:=h;have hn:=(JU l _ _ hu).2;rw[ih.1 u hu];simp only[XW.up,hn,Nat.add_sub_cancel]
    ·intro h;simp only[Option.map_eq_none_iff]at h;exact ih.2 h
theorem Pw{most long:Nat}:∀(l:List T) (s:WS),(∀s',Bk most long l s=some s'->Bp most long l (s,false)=(s',false))/\(Bk most long l s=none->(Bp most long l (s,false)).2=true)
 |[],s=>by simp[Bp,Bk]
 |t::l,s=>by
  simp only[Bp,Bk];have a:=Px (most:=most) (long:=long) t s;cases h:enc most long t s with
  |none=>
   refine⟨λs' h'=>by simp at h',λ_=>?_⟩;rw[show B1 most long t (s,false)=((B1 most long t (s,false)).1,true)from Prod.ext rfl (a.2 h)];exact Pv l _
  |some u=>
   rw[a.1 u h];exact Pw l u
end
structure XG(p most long:Nat)(x:XW)(O:Nat->Prop)(w:World)(vb vt:Value):Prop where
 blk:Blk w p [vb,vt,.int .i64 x.1.nest,.bool x.2,.int .i64 most,.int .i64 long] 173
 rb:w.ownsRow 0 5 1 vb x.1.b.length (x.1.b.map bv)
 rt:w.ownsRow 0 9 1 vt x.1.tab.length (x.1.tab.map Value.string)
 op:O p
 ob:∀k,Aw vb k->O k/\k≠p/\¬Aw vt k
 ot:∀k,Aw vt k->O k/\k≠p
structure XSt(w0:World)(S:Nat->Prop)(p most long:Nat)(x:XW)(O:Nat->Prop)(w:World):Prop where
 inp:∀b,S b->b<w0.heap.size->¬O b/\w.heap[b]? =w0.heap[b]?
 lt:∀b,O b->b<w.heap.size
 base:w0.heap.size<=w.heap.size
 mem:∃vb vt,XG p most long x O w vb vt
 tabs:∀y∈x.1.tab,y.size<=maxLen
section
variable{w0:World}{S:Nat->Prop}{p most long:Nat}{x:XW}{O:Nat->Prop}{w:World}
theorem XSt.other(h:XSt w0 S p most long x O w){U U':Nat->Prop}{w':World}(f:Fr U w U' w')(hu:∀b,U b->¬O b/\w0.heap.size<=b):XSt w0 S p most long x O w':=by
 have hO:∀b,O b->w'.heap[b]? =w.heap[b]? :=λb hb=>f.blk b (h.lt b hb) (λhu'=>(hu b hu').1 hb);refine⟨λb hb hl=>⟨(h.inp b hb hl).1,?_⟩,λb hb=>BB (h.lt b hb) f.size,AX h.base f.size,?_,h.tabs⟩
 ·rw[f.blk b (BB hl h.base) (λhu'=>by have:=(hu b hu').2;omega)];exact(h.inp b hb hl).2
 ·obtain⟨vb,vt,m⟩:=h.mem;exact⟨vb,vt,(hO p m.op).trans m.blk,Cn m.rb (λb hb=>hO b (m.ob b hb).1),Cn m.rt (λb hb=>hO b (m.ot b hb).1),m.op,m.ob,m.ot⟩
theorem XSt.drewN(h:XSt w0 S p most long x O w)(n:Nat):XSt w0 S p most long x O (w.drewN n):=
 ⟨h.inp,h.lt,h.base,by obtain⟨vb,vt,m⟩:=h.mem;exact⟨vb,vt,m.blk,m.rb,m.rt,m.op,m.ob,m.ot⟩,h.tabs⟩
theorem QA(cs:List Value)(i:Nat)(v:Value)(h:i<cs.length):Ci cs i [v]=cs.set i v:=by
 rw[Xp,if_pos h];simp[Ci]
theorem XSt.step(h:XSt w0 S p most long x O w){vb vt vb' vt':Value}{x':XW}{w':World}(m:XG p most long x O w vb vt)
 (f:Fr (λk=>Aw vb k\/Aw vt k) w (λk=>Aw vb' k\/Aw vt' k) w')
 (rb:w'.ownsRow 0 5 1 vb' x'.1.b.length (x'.1.b.map bv)) (rt:w'.ownsRow 0 9 1 vt' x'.1.tab.length (x'.1.tab.map Value.string))
 (hne:∀k,Aw vb' k->¬Aw vt' k) (ht:∀y∈x'.1.tab,y.size<=maxLen):
 ∃O',Fr O w O' (w'.setRow p [vb',vt',.int .i64 x'.1.nest,.bool x'.2,.int .i64 most,.int .i64 long].toArray)/\
  XSt w0 S p most long x' O' (w'.setRow p [vb',vt',.int .i64 x'.1.nest,.bool x'.2,.int .i64 most,.int .i64 long].toArray):=by
 have hp:p<w.heap.size:=h.lt p m.op;have hU:∀k,Aw vb k\/Aw vt k->O k/\k≠p:=λk hk=>hk.elim (λhb=>⟨(m.ob k hb).1,(m.ob k hb).2.1⟩) (λhb=>m.ot k hb);have hbp:w'.heap[p]? =w.heap[p]? :=f.blk p hp (λho=>(hU p ho).2 rfl);have hblk:Blk w' p [vb,vt,.int .i64 x.1.nest,.bool x.2,.int .i64 most,.int .i64 long] 173:=hbp.trans m.blk;have hV:∀k,Aw vb' k\/Aw vt' k->k≠p:=by
  intro k hk;rcases f.own k hk with h1|h1
  ·exact(hU k h1).2
  ·omega
 have f2:Fr O w (grow O w w') w':=f.grow (λb hb=>(hU b hb).1);refine⟨grow O w w',f2.trans (Fr.setRow _ (.inl m.op)),?_,?_,?_,⟨vb',vt',hblk.setRow _,?_,?_,.inl m.op,?_,?_⟩,ht⟩
 ·intro b hb hl;have hi:=h.inp b hb hl;have hbl:b<w.heap.size:=BB hl h.base;refine⟨λho=>ho.elim hi.1 (λhg=>by omega),?_⟩;rw[setRow_other _ _ _ _ (λe=>hi.1 (by rw[e];exact m.op)),f.blk b hbl (λho=>hi.1 (hU b ho).1)];exact hi.2
 ·intro b hb;simp only[E8];exact hb.elim (λho=>BB (h.lt b ho) f.size) (λhg=>hg.2)
 ·simp only[E8];exact AX h.base f.size
 ·exact Cn rb (λb hb=>setRow_other _ _ _ _ (hV b (.inl hb)))
 ·exact Cn rt (λb hb=>setRow_other _ _ _ _ (hV b (.inr hb)))
 ·intro k hk;refine⟨?_,hV k (.inl hk),hne k hk⟩;rcases f.own k (.inl hk)with h1|h1
  ·exact .inl (hU k h1).1
  ·exact .inr ⟨h1,C8 rb hk⟩
 ·intro k hk;refine⟨?_,hV k (.inr hk)⟩;rcases f.own k (.inr hk)with h1|h1
  ·exact .inl (hU k h1).1
  ·exact .inr ⟨h1,C8 rt hk⟩
theorem XSt.put(h:XSt w0 S p most long x O w):∃vb,w.cell? ⟨p,0,none⟩=some vb/\w.ownsRow 0 5 1 vb x.1.b.length (x.1.b.map bv)/\(∀k,Aw vb k->O k)/\O p/\
 ∀vb' w' bs,Fr (Aw vb) w (Aw vb') w'->w'.ownsRow 0 5 1 vb' bs.length (bs.map bv)->
  ∃w'' O',(storeVar 22 ⟨p,0,none⟩ vb').run prog w'= .ok () w''/\Fr O w O' w''/\XSt w0 S p most long ({x.1 with b:=bs},x.2) O' w'':=by
 obtain⟨vb,vt,m⟩:=h.mem;refine⟨vb,by rw[m.blk.cell];rfl,m.rb,λk hk=>(m.ob k hk).1,m.op,?_⟩;intro vb' w' bs f r;have hvt:∀b,Aw vt b->w'.heap[b]? =w.heap[b]? :=λb hb=>f.blk b (C8 m.rt hb) (λho=>(m.ob b ho).2.2 hb);have hne:∀k,Aw vb' k->¬Aw vt k:=by
  intro k hk ht;rcases f.own k hk with h1|h1
  ·exact(m.ob k h1).2.2 ht
  ·have:=C8 m.rt ht;omega
 have hbp:w'.heap[p]? =w.heap[p]? :=f.blk p (h.lt p m.op) (λho=>(m.ob p ho).2.1 rfl);have hblk:Blk w' p [vb,vt,.int .i64 x.1.nest,.bool x.2,.int .i64 most,.int .i64 long] 173:=hbp.trans m.blk;have hst:=CG (P:=prog) (w:=w') (t:=22) (n:=1) (agg:=false) (b:=p) (o:=0) (v:=vb') C_ (J3 r).1 rfl (by simpa using(J3 r).2) hblk (by simp);rw[QA _ _ _ (by simp)]at hst;have f':Fr (λk=>Aw vb k\/Aw vt k) w (λk=>Aw vb' k\/Aw vt k) w':=
  ⟨f.os,f.tape,f.output,f.size,λb hb hn=>f.blk b hb (λho=>hn (.inl ho)),λb hb=>hb.elim (λh1=>(f.own b h1).elim (λh2=>.inl (.inl h2)) .inr) (λh1=>.inl (.inr h1))⟩
 obtain⟨O',g1,g2⟩:=h.step (x':=({x.1 with b:=bs},x.2)) m f' r (Cn m.rt hvt) hne h.tabs;exact⟨_,O',hst,g1,g2⟩
theorem XSt.putTab(h:XSt w0 S p most long x O w):∃vt,w.cell? ⟨p,1,none⟩=some vt/\w.ownsRow 0 9 1 vt x.1.tab.length (x.1.tab.map Value.string)/\(∀k,Aw vt k->O k)/\O p/\
 ∀vt' w' tab,Fr (Aw vt) w (Aw vt') w'->w'.ownsRow 0 9 1 vt' tab.length (tab.map Value.string)->(∀y∈tab,y.size<=maxLen)->
  ∃w'' O',(storeVar 44 ⟨p,1,none⟩ vt').run prog w'= .ok () w''/\Fr O w O' w''/\XSt w0 S p most long ({x.1 with tab:=tab},x.2) O' w'':=by
 obtain⟨vb,vt,m⟩:=h.mem;refine⟨vt,by rw[m.blk.cell];rfl,m.rt,λk hk=>(m.ot k hk).1,m.op,?_⟩;intro vt' w' tab f r ht;have hvb:∀b,Aw vb b->w'.heap[b]? =w.heap[b]? :=λb hb=>f.blk b (C8 m.rb hb) (λho=>(m.ob b hb).2.2 ho);have hne:∀k,Aw vb k->¬Aw vt' k:=by
  intro k hk hv;rcases f.own k hv with h1|h1
  ·exact(m.ob k hk).2.2 h1
  ·have:=C8 m.rb hk;omega
 have hbp:w'.heap[p]? =w.heap[p]? :=f.blk p (h.lt p m.op) (λho=>(m.ot p ho).2 rfl);have hblk:Blk w' p [vb,vt,.int .i64 x.1.nest,.bool x.2,.int .i64 most,.int .i64 long] 173:=hbp.trans m.blk;have hst:=CG (P:=prog) (w:=w') (t:=44) (n:=1) (agg:=false) (b:=p) (o:=1) (v:=vt') Ei (J3 r).1 rfl (by simpa using(J3 r).2) hblk (by simp);rw[QA _ _ _ (by simp)]at hst;have f':Fr (λk=>Aw vb k\/Aw vt k) w (λk=>Aw vb k\/Aw vt' k) w':=
  ⟨f.os,f.tape,f.output,f.size,λb hb hn=>f.blk b hb (λho=>hn (.inr ho)),λb hb=>hb.elim (λh1=>.inl (.inl h1)) (λh1=>(f.own b h1).elim (λh2=>.inl (.inr h2)) .inr)⟩
 obtain⟨O',g1,g2⟩:=h.step (x':=({x.1 with tab:=tab},x.2)) m f' (Cn m.rb hvb) r hne ht;exact⟨_,O',hst,g1,g2⟩
theorem XSt.flags(h:XSt w0 S p most long x O w):O p/\w.cell? ⟨p,2,none⟩=some (.int .i64 x.1.nest)/\w.cell? ⟨p,3,none⟩=some (.bool x.2)/\w.cell? ⟨p,4,none⟩=some (.int .i64 most)/\w.cell? ⟨p,5,none⟩=some (.int .i64 long)/\
 (∀n:Nat,∃w' O',(storeVar 3 ⟨p,2,none⟩ (.int .i64 n)).run prog w= .ok () w'/\Fr O w O' w'/\XSt w0 S p most long ({x.1 with nest:=n},x.2) O' w')/\
 (∀d:Bool,∃w' O',(storeVar 4 ⟨p,3,none⟩ (.bool d)).run prog w= .ok () w'/\Fr O w O' w'/\XSt w0 S p most long (x.1,d) O' w'):=by
 obtain⟨vb,vt,m⟩:=h.mem;have hne:∀k,Aw vb k->¬Aw vt k:=λk hk=>(m.ob k hk).2.2;have f':Fr (λk=>Aw vb k\/Aw vt k) w (λk=>Aw vb k\/Aw vt k) w:=Fr.refl _ _;refine⟨m.op,by rw[m.blk.cell];rfl,by rw[m.blk.cell];rfl,by rw[m.blk.cell];rfl,by rw[m.blk.cell];rfl,λn=>?_,λd=>?_⟩
 ·have hst:=CG (P:=prog) (w:=w) (t:=3) (n:=1) (agg:=false) (b:=p) (o:=2) (v:=.int .i64 n) (vs:=[.int .i64 n]) Bo rfl rfl (by simp[Value.oneCell']) m.blk (by simp);rw[QA _ _ _ (by simp)]at hst;obtain⟨O',g1,g2⟩:=h.step (x':=({x.1 with nest:=n},x.2)) m f' m.rb m.rt hne h.tabs;exact⟨_,O',hst,g1,g2⟩
 ·have hst:=CG (P:=prog) (w:=w) (t:=4) (n:=1) (agg:=false) (b:=p) (o:=3) (v:=.bool d) (vs:=[.bool d]) D4 rfl rfl (by simp[Value.oneCell']) m.blk (by simp);rw[QA _ _ _ (by simp)]at hst;obtain⟨O',g1,g2⟩:=h.step (x':=(x.1,d)) m f' m.rb m.rt hne h.tabs;exact⟨_,O',hst,g1,g2⟩
end
section
variable{w:World}{t:TypeId}
variable{d n:Nat}
theorem Ato(hd:0<d):(binOp .rem t (.int .u64 (n:Int)) (.int .u64 (d:Int))).run prog w= .ok (.int .u64 ((n%d:Nat):Int)) w:=by
 show(Op.intDiv .rem .u64 n d).run prog w=_;have h:¬((d:Int)=0):=by omega
 simp only[Op.intDiv,h,if_false];rw[show(n:Int).tmod (d:Int)=((n%d:Nat):Int)from rfl];rfl
theorem Atl(hd:0<d)(hn:n<18446744073709551616):(binOp .quo t (.int .u64 (n:Int)) (.int .u64 (d:Int))).run prog w= .ok (.int .u64 ((n/d:Nat):Int)) w:=by
 show(Op.intDiv .quo .u64 n d).run prog w=_;have h:¬((d:Int)=0):=by omega
 simp only[Op.intDiv,h,if_false];rw[show(n:Int).tdiv (d:Int)=((n/d:Nat):Int)from rfl,DH (Ox _) (DR.2 (RH (RC n d) hn))];rfl
variable{b a:Int}
theorem Ab2(h0:0<=a+b)(h:a+b<18446744073709551616):(binOp .add t (.int .u64 a) (.int .u64 b)).run prog w= .ok (.int .u64 (a+b)) w:=by
 show Result.ok (Value.int .u64 (IntKind.u64.wrap (a+b))) w=_;rw[DH h0 h]
theorem Ab8(h0:0<=a*b)(h:a*b<18446744073709551616):(binOp .mul t (.int .u64 a) (.int .u64 b)).run prog w= .ok (.int .u64 (a*b)) w:=by
 show Result.ok (Value.int .u64 (IntKind.u64.wrap (a*b))) w=_;rw[DH h0 h]
theorem NI(h:AP (a+b)):(binOp .add t (.int .i64 a) (.int .i64 b)).run prog w= .ok (.int .i64 (a+b)) w:=by
 show Result.ok (Value.int .i64 (IntKind.i64.wrap (a+b))) w=_;rw[CS h]
theorem L_(h:AP (a-b)):(binOp .sub t (.int .i64 a) (.int .i64 b)).run prog w= .ok (.int .i64 (a-b)) w:=by
 show Result.ok (Value.int .i64 (IntKind.i64.wrap (a-b))) w=_;rw[CS h]
theorem Atg(h:AP (-a)):(Op.unary .neg (.int .i64 a)).run prog w= .ok (.int .i64 (-a)) w:=by
 have:(Op.unary .neg (.int .i64 a)).run prog w= .ok (.int .i64 (IntKind.i64.wrap (0-a))) w:=rfl;rw[this,show(0-a)= -a by omega,CS h]
theorem MD{n:Int}(h0:0<=n)(h:n<18446744073709551616):(convert 3 164 (.int .i64 n)).run prog w= .ok (.int .u64 n) w:=by
 have:=De (P:=prog) (w:=w) (s:=3) (t:=164) (k':=.i64) (n:=n) runUnderlying3 runUnderlying164;rwa[DH h0 h]at this
end
variable{w:World}
theorem Abj{b:UInt8}:(w.alloc (.cells [bv b].toArray 5)).ownsRow 0 5 1 (.slice (some ⟨w.heap.size,0,none⟩) 1 1) 1 [bv b]:=
 ⟨rfl,.inr ⟨w.heap.size,1,[bv b].toArray,rfl,AW _,heap_alloc_new w _,Ay _,by simp[maxLen],rfl,rfl⟩⟩
variable{s:Nat}
theorem VX{l c b:Nat}(h:Aw (.slice (some ⟨s,0,none⟩) l c) b):s=b:=by simpa[Aw,Value.ownBlock]using h
theorem IT:∀(N n:Nat) {w:World},n<=N->n<18446744073709551616->Calls prog 89 [.int .u64 (n:Int)].toArray w (End (λv w'=>w'.ownsRow 0 5 1 v (num n).length ((num n).map bv)/\Fr (λ_=>False) w (Aw v) w') (λ_ _=>False)):=by
 intro N;induction N using Nat.strongRecOn with
 |_ N ih=>
  intro n w hN hn;refine AE 17 func89 V V V ?_;refine Ac (Ab (Ah V V (Ag ?_)));refine Ac (Ac (Ab (Aa V V (Al V V (CR (c:=decide (n<128)) (BM.2 (by omega))) V (Ag (AN V (λht=>?_) (λhf=>AG λa ha=>Ak ?_)))))))
  ·have hlt:n<128:=B7 ht;refine Ac (Ab (Aa V V (BH V Ph V ?_)));rw[show((n:Int)%256)=(n:Int)by omega,<-Ie n (by omega)];refine BR V (Lt V) V (Ah V V (Ag (AJ λa ha=>C9 (Ch V ha V ⟨?_,?_⟩))))
   ·rw[FE hlt];exact Abj
   ·exact⟨rfl,rfl,rfl,by simp,λb hb _=>heap_alloc_old w _ b hb,λb hb=>.inr (Hg (VX hb))⟩
  ·have hge:128<=n:=by have:=B2 hf;omega
   refine A6 ha (Ac (Ab (Aa V V (Al V V (Ato (d:=128) (by decide)) V (Al V V (Ab2 (by omega) (by omega)) V (BH V Ph V ?_))))));rw[show(((n%128:Nat):Int)+128)%256=((n%128+128:Nat):Int)by omega,<-Ie (n%128+128) (by omega)];refine BR V (Lt V) V (Aa V V (Al V V (Atl (d:=128) (by decide) hn) V ?_));have r1:(w.alloc (.cells [bv (n%128+128).toUInt8].toArray 5)).ownsRow 0 5 1 (.slice (some ⟨w.heap.size,0,none⟩) 1 1) 1 [bv (n%128+128).toUInt8]:=Abj;have f1:Fr (λ_=>False) w (Aw (.slice (some ⟨w.heap.size,0,none⟩) 1 1)) (w.alloc (.cells [bv (n%128+128).toUInt8].toArray 5)):=
    ⟨rfl,rfl,rfl,by simp,λb hb _=>heap_alloc_old w _ b hb,λb hb=>.inr (Hg (VX hb))⟩
   generalize w.alloc (.cells [bv (n%128+128).toUInt8].toArray 5)=w1 at r1 f1⊢;refine Af call89 V V (ih (n/128) (by omega) (n/128) (Ay _) (by omega)) ?_ Am;rintro v2 w2 ⟨r2,f2⟩;have r1':w2.ownsRow 0 5 1 (.slice (some ⟨w.heap.size,0,none⟩) 1 1) [(n%128+128).toUInt8].length ([(n%128+128).toUInt8].map bv):=Cn r1 (λb hb=>f2.blk b (C8 r1 hb) (λh=>h));have hl:=EY (n:=n/128) (by omega);obtain⟨v3,w3,hr3,r3,f3⟩:=E7 (ty:=22) r1' (EA r2).src (by simp only[Cg,DS];omega);refine CX V V hr3 V (Ah V V (Ag (AJ λa ha=>Ch V ha V ⟨?_,?_⟩)))
   ·rw[Jz hge];exact r3
   ·have f12:Fr (λ_=>False) w (Aw (.slice (some ⟨w.heap.size,0,none⟩) 1 1)) w2:=f1.trans (f2.drop (λ_ h=>h.elim));exact f12.trans f3
def OM(f:FuncId)(v:Value)(g:Nat->Nat->XW->XW)(k:Nat):Prop:=
 ∀{w0:World}{S:Nat->Prop}{p most long:Nat}{x:XW}{O:Nat->Prop}{w:World},XSt w0 S p most long x O w->x.1.use+11*k<=2 ^ 40->
  Calls prog f [ptr p,v].toArray w (End (λr w'=>r= .tuple #[]/\∃O',Fr O w O' w'/\XSt w0 S p most long (g most long x) O' w') (λ_ _=>False))
variable{long most k:Nat}{x:XW}{S:Nat->Prop}{w0:World}
theorem XSt.use_lens{p:Nat}{O:Nat->Prop}(_:XSt w0 S p most long x O w)(hu:x.1.use+11*k<=2 ^ 40)(hk:1<=k):
 x.1.b.length+11<=2 ^ 40/\x.1.tab.length+11<=2 ^ 40/\x.1.nest+11<=2 ^ 40:=by
 simp only[WS.use]at hu;omega
theorem Gk:Ax prog 173 0 0:=fA underlying173 rfl sizeOf22 rfl rfl
theorem Im:Ax prog 173 1 1:=fA underlying173 rfl sizeOf44 rfl rfl
theorem Fi:Ax prog 173 2 2:=fA underlying173 rfl sizeOf3 rfl rfl
theorem Jb:Ax prog 173 3 3:=fA underlying173 rfl sizeOf4 rfl rfl
theorem Ano:Ax prog 173 4 4:=fA underlying173 rfl sizeOf3 rfl rfl
theorem Anp:Ax prog 173 5 5:=fA underlying173 rfl sizeOf3 rfl rfl
section
variable{P:Program}{ops:Array Oper}{Q:Exit->Act->World->Prop}{n:Nat}{ds:List Deferred}{m:Env}{w:World}{fuel:Nat}{listed:Array Bool}{i d:Nat}{ty:TypeId}{pos:String}{aft:Array Edge}
variable{v:Value}
theorem GA{x:Operand}(hi:ops[i]? =some ⟨some d,.move x,ty,pos,aft,none⟩)(hok:J0 ops listed i=true)
 (hQ:Blind Q) (hx:ev m x=some v) (hb:Nat.blt d n=true) (h:AL P ops Q fuel (listed.setIfInBounds i true) n ds ((d,v)::m) w):AL P ops Q (fuel+1) listed n ds m w:=
 K7 hi hok hQ rfl rfl hb (λa w ha=>by simp[execOp,ha.eval hx]) h
theorem Rb{x:Operand}{q:Addr}(hi:ops[i]? =some ⟨some d,.nilCheck x,ty,pos,aft,none⟩)(hok:J0 ops listed i=true)
 (hQ:Blind Q) (hx:ev m x=some (.pointer (some q))) (hb:Nat.blt d n=true) (h:AL P ops Q fuel (listed.setIfInBounds i true) n ds ((d,.pointer (some q))::m) w):AL P ops Q (fuel+1) listed n ds m w:=
 K7 hi hok hQ rfl rfl hb (λa w ha=>by simp[execOp,ha.eval hx]) h
theorem Ra{x:Operand}{q r:Addr}(hi:ops[i]? =some ⟨some d,.fieldAddr s x k,ty,pos,aft,none⟩)(hok:J0 ops listed i=true)
 (hQ:Blind Q) (hx:ev m x=some (.pointer (some q))) (hfa:∀w,(Instr.fieldAt s (.pointer (some q)) k).run P w= .ok (.pointer (some r)) w) (hb:Nat.blt d n=true)
 (h:AL P ops Q fuel (listed.setIfInBounds i true) n ds ((d,.pointer (some r))::m) w):AL P ops Q (fuel+1) listed n ds m w:=
 K7 hi hok hQ rfl rfl hb (λa w ha=>by simp[execOp,ha.eval hx,hfa w]) h
variable{vx:Value}
theorem Oj{t:Nat}{x:Operand}(hi:ops[i]? =some ⟨some d,.convert s t x,ty,pos,aft,none⟩)(hok:J0 ops listed i=true)
 (hQ:Blind Q) (hx:ev m x=some vx) (hc:∀w,(Go.convert s t vx).run P w= .ok v w) (hb:Nat.blt d n=true)
 (h:AL P ops Q fuel (listed.setIfInBounds i true) n ds ((d,v)::m) w):AL P ops Q (fuel+1) listed n ds m w:=
 K7 hi hok hQ rfl rfl hb (λa w ha=>by simp[execOp,ha.eval hx,hc w]) h
variable{b a:Int}{y:Operand}
theorem JE{op:BinOp}{t u:Nat}{x:Operand}{k k':IntKind}(hi:ops[i]? =some ⟨some d,.binOp op t x y u,ty,pos,aft,none⟩)(hok:J0 ops listed i=true)
 (hQ:Blind Q) (hx:ev m x=some (.int k a)) (hy:ev m y=some (.int k' b)) (hc:∀w,(Go.binOp op t (.int k a) (.int k' b)).run P w= .ok v w) (hb:Nat.blt d n=true)
 (h:AL P ops Q fuel (listed.setIfInBounds i true) n ds ((d,v)::m) w):AL P ops Q (fuel+1) listed n ds m w:=
 K7 hi hok hQ rfl rfl hb (λa' w ha=>by
  have he:eqGuard op t x y (.int k a) (.int k' b)=pure ():=by unfold eqGuard;cases op<;>rfl
  simp[execOp,ha.eval hx,ha.eval hy,he,hc w]) h
theorem Adx{op:UnOp}{t:Nat}{x:Operand}(hi:ops[i]? =some ⟨some d,.unOp op t x,ty,pos,aft,none⟩)(hok:J0 ops listed i=true)
 (hQ:Blind Q) (hx:ev m x=some vx) (hc:∀w,(Op.unary op vx).run P w= .ok v w) (hb:Nat.blt d n=true)
 (h:AL P ops Q fuel (listed.setIfInBounds i true) n ds ((d,v)::m) w):AL P ops Q (fuel+1) listed n ds m w:=
 K7 hi hok hQ rfl rfl hb (λa w ha=>by simp[execOp,ha.eval hx,hc w]) h
end
variable{n:Nat}
theorem MA(hn:n<9223372036854775808):OM 137 (.int .i64 (n:Int)) (λ_ _ x=>(x.1.num n,x.2)) 1:=by
 intro w0 S p most long x O w hx hu;have hl:=hx.use_lens hu (Ay 1);refine AE 15 func137 V V V ?_;refine OI FS ?_;have hx1:=hx.drewN 1;have f0:Fr O w O (w.drewN 1):=Fr.drewn 1;generalize w.drewN 1=w1 at hx1 f0⊢;obtain⟨vb,hc,r,hob,hop,put⟩:=hx1.put;have hpl:=hx1.lt p hop;have hQ:Blind (bodyPost prog Tryz.f137 (End (λr w'=>r= .tuple #[]/\∃O',Fr O w O' w'/\XSt w0 S p most long (x.1.num n,x.2) O' w') (λ_ _=>False))):=Rd;refine GA (i:=0) V (by decide+kernel) hQ V V (GA (i:=1) V (by decide+kernel) hQ V V (Rb (i:=2) V (by decide+kernel) hQ V V (Ra (i:=3) V (by decide+kernel) hQ V (λw=>Gk w _ _) V ?_)));refine GA (i:=5) V (by decide+kernel) hQ V V (Oj (i:=6) V (by decide+kernel) hQ V (λw=>MD (by omega) (by omega)) V ?_);have hnl:=EY (n:=n) (by omega);refine LS (i:=4) (j:=7) (by decide+kernel) V V ?_ ?_
 ·refine Ae V (Ai C_ hc) V (BI (Cp (i:=7) (by decide+kernel) V (Af call89 V V (IT n n (Ay _) (by omega)) ?_ Am)));rintro v2 w2 ⟨r2,f2⟩;have r':=Cn r (λb hb=>f2.blk b (C8 r hb) (λh=>h));obtain⟨v3,w3,hr3,r3,f3⟩:=E7 (ty:=22) r' (EA r2).src (by omega);obtain⟨w4,O4,hst,f4,hx4⟩:=put v3 w3 _ ((f2.none.drop (λ_ h=>h.elim)).trans f3) r3;exact BI (Cp (i:=8) (by decide+kernel) V (CX V V hr3 V (BI (Cp (i:=9) (by decide+kernel) V (AR V V (BI (Cp (i:=10) (by decide+kernel) V (Ad V (Gk _ _ _) V (BI (Cp (i:=11) (by decide+kernel) V (An V V hst (BI (HK (by decide+kernel) (λa ha=>B9 V ha ⟨rfl,O4,f0.trans f4,hx4⟩))))))))))))))
 ·refine Af call89 V V (IT n n (Ay _) (by omega)) ?_ Am;rintro v2 w2 ⟨r2,f2⟩;have r':=Cn r (λb hb=>f2.blk b (C8 r hb) (λh=>h));have hc':w2.cell? ⟨p,0,none⟩=some vb:=by rw[World.cell?_of_block (w:=w1) (f2.blk p hpl (λh=>h))];exact hc
  obtain⟨v3,w3,hr3,r3,f3⟩:=E7 (ty:=22) r' (EA r2).src (by omega);obtain⟨w4,O4,hst,f4,hx4⟩:=put v3 w3 _ ((f2.none.drop (λ_ h=>h.elim)).trans f3) r3;exact BI (Cp (i:=4) (by decide+kernel) V (Ae V (Ai C_ hc') V (BI (Cp (i:=8) (by decide+kernel) V (CX V V hr3 V (BI (Cp (i:=9) (by decide+kernel) V (AR V V (BI (Cp (i:=10) (by decide+kernel) V (Ad V (Gk _ _ _) V (BI (Cp (i:=11) (by decide+kernel) V (An V V hst (BI (HK (by decide+kernel) (λa ha=>B9 V ha ⟨rfl,O4,f0.trans f4,hx4⟩)))))))))))))))))
theorem Asm{fn:Func}{R:Ending->World->Prop}{m:Env}{a:Act}{P:Program}(hres:fn.results=#[])(ha:Loc n [] m a)(h:R (.returned (.tuple #[])) w):bodyPost P fn R .ret a w:=
 bodyPost_ret (results_none hres _ _ _) ha.defers h
theorem Afh{n:Int}(hn:AP n):OM 139 (.int .i64 n) (λ_ _ x=>(x.1.num (C2 n),x.2)) 1:=by
 intro w0 S p most long x O w hx hu;have hl:=hx.use_lens hu (Ay 1);have hi:=hn;unfold AP at hi;have hnl:=EY (G_ n);refine AE 33 func139 V V V ?_;refine Ac (Ab (Aa V V (Al V V (NJ (c:=decide (0<=n)) V) V (Ag ?_))));have hx1:=hx.drewN 1;have f0:Fr O w O (w.drewN 1):=Fr.drewn 1;have hQ:Blind (bodyPost prog Tryz.f139 (End (λr w'=>r= .tuple #[]/\∃O',Fr O w O' w'/\XSt w0 S p most long (x.1.num (C2 n),x.2) O' w') (λ_ _=>False))):=Rd;refine AN V (λht=>OI FS ?_) (λhf=>OI FS ?_)
 ·have h0:0<=n:=B7 ht;generalize w.drewN 1=w1 at hx1 f0⊢;obtain⟨vb,hc,r,hob,hop,put⟩:=hx1.put;have hpl:=hx1.lt p hop;have hz:2*n=((C2 n:Nat):Int):=by unfold C2;rw[if_pos h0];omega
  refine GA (i:=0) V (by decide+kernel) hQ V V (GA (i:=1) V (by decide+kernel) hQ V V (Rb (i:=2) V (by decide+kernel) hQ V V (Ra (i:=3) V (by decide+kernel) hQ V (λw=>Gk w _ _) V ?_)));refine GA (i:=5) V (by decide+kernel) hQ V V (Oj (i:=6) V (by decide+kernel) hQ V (λw=>MD h0 (by omega)) V (JE (i:=7) V (by decide+kernel) hQ V V (λw=>Ab8 (by omega) (by omega)) V ?_));rw[hz];refine LS (i:=4) (j:=8) (by decide+kernel) V V ?_ ?_
  ·refine Ae V (Ai C_ hc) V (BI (Cp (i:=8) (by decide+kernel) V (Af call89 V V (IT _ _ (Ay _) (G_ n)) ?_ Am)));rintro v2 w2 ⟨r2,f2⟩;have r':=Cn r (λb hb=>f2.blk b (C8 r hb) (λh=>h));obtain⟨v3,w3,hr3,r3,f3⟩:=E7 (ty:=22) r' (EA r2).src (by omega);obtain⟨w4,O4,hst,f4,hx4⟩:=put v3 w3 _ ((f2.none.drop (λ_ h=>h.elim)).trans f3) r3;exact BI (Cp (i:=9) (by decide+kernel) V (CX V V hr3 V (BI (Cp (i:=10) (by decide+kernel) V (AR V V (BI (Cp (i:=11) (by decide+kernel) V (Ad V (Gk _ _ _) V (BI (Cp (i:=12) (by decide+kernel) V (An V V hst (BI (HK (by decide+kernel) (λa ha=>B9 V ha ⟨rfl,O4,f0.trans f4,hx4⟩))))))))))))))
  ·refine Af call89 V V (IT _ _ (Ay _) (G_ n)) ?_ Am;rintro v2 w2 ⟨r2,f2⟩;have r':=Cn r (λb hb=>f2.blk b (C8 r hb) (λh=>h));have hc':w2.cell? ⟨p,0,none⟩=some vb:=by rw[World.cell?_of_block (w:=w1) (f2.blk p hpl (λh=>h))];exact hc
   obtain⟨v3,w3,hr3,r3,f3⟩:=E7 (ty:=22) r' (EA r2).src (by omega);obtain⟨w4,O4,hst,f4,hx4⟩:=put v3 w3 _ ((f2.none.drop (λ_ h=>h.elim)).trans f3) r3;exact BI (Cp (i:=4) (by decide+kernel) V (Ae V (Ai C_ hc') V (BI (Cp (i:=9) (by decide+kernel) V (CX V V hr3 V (BI (Cp (i:=10) (by decide+kernel) V (AR V V (BI (Cp (i:=11) (by decide+kernel) V (Ad V (Gk _ _ _) V (BI (Cp (i:=12) (by decide+kernel) V (An V V hst (BI (HK (by decide+kernel) (λa ha=>B9 V ha ⟨rfl,O4,f0.trans f4,hx4⟩)))))))))))))))))
 ·have h0:¬0<=n:=B2 hf;generalize w.drewN 1=w1 at hx1 f0⊢;obtain⟨vb,hc,r,hob,hop,put⟩:=hx1.put;have hpl:=hx1.lt p hop;have hz:2* -(n+1)+1=((C2 n:Nat):Int):=by unfold C2;rw[if_neg h0];omega
  refine GA (i:=0) V (by decide+kernel) hQ V V (GA (i:=1) V (by decide+kernel) hQ V V (Rb (i:=2) V (by decide+kernel) hQ V V (Ra (i:=3) V (by decide+kernel) hQ V (λw=>Gk w _ _) V ?_)));refine GA (i:=5) V (by decide+kernel) hQ V V (JE (i:=6) V (by decide+kernel) hQ V V (λw=>NI (by unfold AP;omega)) V (Adx (i:=7) V (by decide+kernel) hQ V (λw=>Atg (by unfold AP;omega)) V ?_));refine Oj (i:=8) V (by decide+kernel) hQ V (λw=>MD (by omega) (by omega)) V (JE (i:=9) V (by decide+kernel) hQ V V (λw=>Ab8 (by omega) (by omega)) V (JE (i:=10) V (by decide+kernel) hQ V V (λw=>Ab2 (by omega) (by omega)) V ?_));rw[hz];refine LS (i:=4) (j:=11) (by decide+kernel) V V ?_ ?_
  ·refine Ae V (Ai C_ hc) V (BI (Cp (i:=11) (by decide+kernel) V (Af call89 V V (IT _ _ (Ay _) (G_ n)) ?_ Am)));rintro v2 w2 ⟨r2,f2⟩;have r':=Cn r (λb hb=>f2.blk b (C8 r hb) (λh=>h));obtain⟨v3,w3,hr3,r3,f3⟩:=E7 (ty:=22) r' (EA r2).src (by omega);obtain⟨w4,O4,hst,f4,hx4⟩:=put v3 w3 _ ((f2.none.drop (λ_ h=>h.elim)).trans f3) r3;exact BI (Cp (i:=12) (by decide+kernel) V (CX V V hr3 V (BI (Cp (i:=13) (by decide+kernel) V (AR V V (BI (Cp (i:=14) (by decide+kernel) V (Ad V (Gk _ _ _) V (BI (Cp (i:=15) (by decide+kernel) V (An V V hst (BI (HK (by decide+kernel) (λa ha=>B9 V ha ⟨rfl,O4,f0.trans f4,hx4⟩))))))))))))))
  ·refine Af call89 V V (IT _ _ (Ay _) (G_ n)) ?_ Am;rintro v2 w2 ⟨r2,f2⟩;have r':=Cn r (λb hb=>f2.blk b (C8 r hb) (λh=>h));have hc':w2.cell? ⟨p,0,none⟩=some vb:=by rw[World.cell?_of_block (w:=w1) (f2.blk p hpl (λh=>h))];exact hc
   obtain⟨v3,w3,hr3,r3,f3⟩:=E7 (ty:=22) r' (EA r2).src (by omega);obtain⟨w4,O4,hst,f4,hx4⟩:=put v3 w3 _ ((f2.none.drop (λ_ h=>h.elim)).trans f3) r3;exact BI (Cp (i:=4) (by decide+kernel) V (Ae V (Ai C_ hc') V (BI (Cp (i:=12) (by decide+kernel) V (CX V V hr3 V (BI (Cp (i:=13) (by decide+kernel) V (AR V V (BI (Cp (i:=14) (by decide+kernel) V (Ad V (Gk _ _ _) V (BI (Cp (i:=15) (by decide+kernel) V (An V V hst (BI (HK (by decide+kernel) (λa ha=>B9 V ha ⟨rfl,O4,f0.trans f4,hx4⟩)))))))))))))))))
theorem SJ{b:Bool}:OM 138 (.bool b) (λ_ _ x=>(x.1.num b.toNat,x.2)) 1:=by
 intro w0 S p most long x O w hx hu;refine AE 9 func138 V V V ?_;refine Ac (Ab (Aa V V (Ag ?_)));refine AN V (λht=>?_) (λhf=>?_)
 ·subst ht;refine Ab (Aa V V (Af call137 V V (MA (n:=1) (by omega) hx hu) ?_ Am));rintro _ w1 ⟨rfl,O1,f1,hx1⟩;exact A2 λa ha=>B9 V ha ⟨rfl,O1,f1,hx1⟩
 ·subst hf;refine Ab (Aa V V (Af call137 V V (MA (n:=0) (by omega) hx hu) ?_ Am));rintro _ w1 ⟨rfl,O1,f1,hx1⟩;exact A2 λa ha=>B9 V ha ⟨rfl,O1,f1,hx1⟩
variable{i:Nat}
theorem Anx{l:List ByteArray}{y:ByteArray}(hi:l[i]? =some y)(hn:∀j,j<i->l[j]? ≠some y):l.findIdx? (λz=>decide (z=y))=some i:=by
 obtain⟨hl,he⟩:=C3.1 hi;rw[Xo];refine⟨hl,by simpa using he,λj hj=>?_⟩;have:=hn j hj;rw[Bm (by omega)]at this;simpa using this
theorem Anw{l:List ByteArray}{y:ByteArray}(hn:∀j,j<l.length->l[j]? ≠some y):l.findIdx? (λz=>decide (z=y))=none:=by
 rw[Rr];intro z hz;obtain⟨j,hj⟩:=Mh hz;have:=hn j (C3.1 hj).1;rw[hj]at this;simpa using this
theorem Afg{y:ByteArray}(hy:y.size<=maxLen):OM 136 (.string y) (λ_ _ x=>(x.1.str y,x.2)) 1:=by
 intro w0 S p most long x O w hx hu;have hl:=hx.use_lens hu (Ay 1);obtain⟨vt,hct,rt,_,_,_⟩:=hx.putTab;obtain⟨g,cap,hvt,hget⟩:=G2 rt;refine AE 43 func136 V V V ?_;refine Ac (Ac (Ab (Ah V V (Ag ?_))));refine(AF (BP (ι:=Nat) (λi=>[(0,ptr p),(1,.string y),(4,.int .i64 (i:Int))]) (λi w'=>w'=w/\i<=x.1.tab.length/\∀j,j<i->x.1.tab[j]? ≠some y) (λi=>x.1.tab.length-i)
  0 ⟨V,V,V,trivial⟩ ⟨rfl,AW _,λj hj=>absurd hj (by omega)⟩ ?_))
 rintro i w ⟨rfl,hi,hno⟩;refine Ac (Ac (Ab (Aa V V (Aa V V (AR V V (Ad V (Im _ _ _) V (Ae V (Ai Ei hct) V ?_)))))));subst hvt;refine AI V (AM underlying44) V (Al V V (CR (c:=decide (i<x.1.tab.length)) (BM.2 (by omega))) V (Ag (AN V (λht=>AG λa ha=>Ak ?_) (λhf=>BC λa ha=>AD (AD (B_ (Ak ?_)))))))
 ·have hlt:i<x.1.tab.length:=B7 ht;have hti:x.1.tab[i]? =some x.1.tab[i]:=Bm hlt;obtain⟨b,hgb,hcell,_⟩:=hget i (.string x.1.tab[i]) (by rw[Mg,hti];rfl);subst hgb;have hidx:∀w,(Instr.indexAt 44 (.slice (some ⟨b,0,none⟩) x.1.tab.length cap) (.int .i64 (i:Int))).run prog w= .ok (.pointer (some ⟨b,0+(i:Int).toNat*1,none⟩)) w:=λw=>
   Dy underlying44 FT (by omega) (by omega)
  have hcell':w.cell? ⟨b,0+(i:Int).toNat*1,none⟩=some (.string x.1.tab[i]):=by simpa using hcell
  refine A6 ha (Ac (AF (Ac (Ab (Aa V V (AR V V (Ad V (Im _ _ _) V (Ae V (Ai Ei hct) V (Aa V V (AO V V (hidx _) V (Ae V (Ai FT hcell') V (Aa V V (Fg V V Wp V (Ag ?_))))))))))))));refine AN V (λhe=>?_) (λhe=>AG λa ha=>BK (Ak ?_))
  ·have hey:x.1.tab[i]=y:=B7 he;refine Ac (Ab (Aa V V (Aa V V (Af call137 V V (MA (n:=i) (by omega) hx hu) ?_ Am))));rintro _ w1 ⟨rfl,O1,f1,hx1⟩;refine Ag (AJ λa ha=>GL (C9 (C9 (GL (C9 (Asm V ha ⟨rfl,O1,f1,?_⟩))))));have:x.1.str y=x.1.num i:=by unfold WS.str;rw[Anx (by rw[hti,hey]) hno]
   simp only[this];exact hx1
  ·have hey:x.1.tab[i]≠y:=B2 he;refine A6 ha (Ab (Aa V V (Al V V V V (Ah V V (A2 λa ha=>Ak ?_)))));refine⟨i+1,ha.weak ⟨rfl,rfl,congrArg some (Cl (by omega)),trivial⟩,⟨rfl,hlt,λj hj=>?_⟩,by omega⟩;rcases Nat.lt_succ_iff_lt_or_eq.1 hj with h|rfl
   ·exact hno j h
   ·rw[hti];exactλe=>hey (Option.some.inj e)
 ·have hil:i=x.1.tab.length:=by have:=B2 hf;omega
  have hstr:x.1.str y=({x.1 with tab:=x.1.tab++[y]}:WS).num x.1.tab.length:=by unfold WS.str;rw[Anw (hil▸hno)]
  refine A6 ha (Ac (Ab (Aa V V (Aa V V (AR V V (Ad V (Im _ _ _) V (Ae V (Ai Ei hct) V (AI V (AM underlying44) V ?_))))))));refine Af call137 V V (MA (n:=x.1.tab.length) (by omega) hx hu) ?_ Am;rintro _ w1 ⟨rfl,O1,f1,hx1⟩;obtain⟨vt,hct,rt,hot,hop,put⟩:=hx1.putTab;refine Aj [(0,ptr p),(1,.string y)] ⟨V,V,trivial⟩ ?_;refine Ab (Aa V V (Aa V V (AR V V (Ad V (Im _ _ _) V (Ae V (Ai Ei hct) V (Aa V V (BR V V9 V ?_)))))));obtain⟨v2,w2,hr2,r2,f2⟩:=So (w:=w1.alloc (.cells [Value.string y].toArray 9)) (ty:=44) (ys:=[y]) (L4 rt _) (W6 (n:=1) (c:=1) Cf rfl) (by simp only[WS.num,Cg,DS];omega);obtain⟨w3,O3,hst3,f3,hx3⟩:=put v2 w2 _ ((Fr.alloc _ _ _).trans f2) r2 (by
   intro z hz;rcases B3.1 hz with h1|h1
   ·exact hx1.tabs z h1
   ·rw[DT.1 h1];exact hy)
  refine CX V V hr2 V (AR V V (Ad V (Im _ _ _) V (An V V hst3 (A2 λa ha=>B9 V ha ⟨rfl,O3,f1.trans f3,?_⟩))));show XSt w0 S p most long (x.1.str y,x.2) O3 w3;rw[hstr];exact hx3
section
variable{P:Program}{ops:Array Oper}{w:World}{Q:Act->Prop}{rest:List Oper}{n:Nat}{ds:List Deferred}{m:Env}{d:Nat}{ty:TypeId}{pos:String}{aft:Array Edge}
variable{j:Nat}
theorem Et{op:Op}{want:Bool}{o':Oper}{dj:Nat}(hj:ops[j]? =some o')(hdj:o'.dst=some dj)(hv:m.get dj=some (.bool want))
 (h:SL P ops w Q (⟨some d,op,ty,pos,aft,none⟩::rest) n ds m):SL P ops w Q (⟨some d,op,ty,pos,aft,some (j,want)⟩::rest) n ds m:=by
 intro a ha;have h1:=h a ha;unfold wpStill at h1⊢;have hw:Region.wanted ⟨some d,op,ty,pos,aft,some (j,want)⟩ (yielded ops a.tmps)=true:=by
  simp[Region.wanted,yielded,hj,hdj,ha.slot dj _ hv]
 have hw':Region.wanted ⟨some d,op,ty,pos,aft,none⟩ (yielded ops a.tmps)=true:=by simp[Region.wanted]
 rw[if_pos hw];rw[if_pos hw']at h1;exact h1
theorem CW{op:Op}{want:Bool}{o':Oper}{dj:Nat}{vj:Value}(hj:ops[j]? =some o')(hdj:o'.dst=some dj)(hv:m.get dj=some vj)(hn:Kc vj want=false)(hb:Nat.blt d n=true)
 (h:SL P ops w Q rest n ds ((d,undef)::m)):SL P ops w Q (⟨some d,op,ty,pos,aft,some (j,want)⟩::rest) n ds m:=by
 intro a ha;have h1:=h _ (ha.put d undef hb);unfold wpStill;have hw:Region.wanted ⟨some d,op,ty,pos,aft,some (j,want)⟩ (yielded ops a.tmps)=false:=by
  simp only[Region.wanted,yielded,hj,hdj,Cw,ha.slot dj _ hv];cases vj<;>simp_all[Kc]
 rw[hw];exact h1
variable{v:Value}{y:Operand}
theorem Mr{c x:Operand}{b:Bool}(hc:ev m c=some (.bool b))(hx:(match b with|true=>ev m x|false=>ev m y)=some v)(hb:Nat.blt d n=true)
 (h:SL P ops w Q rest n ds ((d,v)::m)):SL P ops w Q (⟨some d,.pick c x y,ty,pos,aft,none⟩::rest) n ds m:=
 HX rfl rfl hb (λa ha=>by
  cases b
  ·simp[execOp,ha.eval hc,asBool,ha.eval hx]
  ·simp[execOp,ha.eval hc,asBool,ha.eval hx]) h
theorem OF{op:BinOp}{t u:Nat}{x:Operand}{k k':IntKind}{i j:Int}(hx:ev m x=some (.int k i))(hy:ev m y=some (.int k' j))
 (hr:(binOp op t (.int k i) (.int k' j)).run P w= .ok v w) (hb:Nat.blt d n=true)
 (h:SL P ops w Q rest n ds ((d,v)::m)):SL P ops w Q (⟨some d,.binOp op t x y u,ty,pos,aft,none⟩::rest) n ds m:=
 HX rfl rfl hb (λa ha=>by
  have he:eqGuard op t x y (.int k i) (.int k' j)=pure ():=by unfold eqGuard;cases op<;>rfl
  simp[execOp,ha.eval hx,ha.eval hy,he,hr]) h
variable{vx:Value}
theorem RM{t:TypeId}{x:Operand}(hx:ev m x=some vx)(hr:(Builtin.len_ #[t] ty #[vx]).run P w= .ok v w)(hb:Nat.blt d n=true)
 (h:SL P ops w Q rest n ds ((d,v)::m)):SL P ops w Q (⟨some d,.call {callee:=.builtin .len,args:=#[x],argTypes:=#[t]},ty,pos,aft,none⟩::rest) n ds m:=
 HX rfl rfl hb (λa ha=>by simp[execOp,resolve,invoke,builtin,ha.eval hx,hr]) h
end
theorem SI{p:Nat}{O:Nat->Prop}(hx:XSt w0 S p most long x O w)(hu:x.1.use+11*1<=2 ^ 40):
 Calls prog 135 [ptr p].toArray w (End (λr w'=>r= .bool (!decide (x.2=true\/most<x.1.nest+1\/long<x.1.b.length))/\∃O',Fr O w O' w'/\
  XSt w0 S p most long ({x.1 with nest:=x.1.nest+1},decide (x.2=true\/most<x.1.nest+1\/long<x.1.b.length)) O' w') (λ_ _=>False)):=by
 have hl:=hx.use_lens hu (Ay 1);obtain⟨hop,hc2,_,_,_,setN,_⟩:=hx.flags;obtain⟨w1,O1,hst1,f1,hx1⟩:=setN (x.1.nest+1);refine AE 45 func135 V V V ?_;refine Ac (Ab (Ah V V (Ag ?_)));refine Ac (Ab (Aa V V (AR V V (Ad V (Fi _ _ _) V (Ae V (Ai Bo hc2) V (Al V V V V (AR V V (Ad V (Fi _ _ _) V (An V (congrArg some (Cl (by omega))) hst1 (Aj [(0,ptr p)] ⟨V,trivial⟩ ?_))))))))));have hx2:=hx1.drewN 1;have f2:Fr O1 w1 O1 (w1.drewN 1):=Fr.drewn 1;obtain⟨vb,hcb,rb,_,_,_⟩:=hx2.put;obtain⟨hop2,hn2,hd3,hm4,hl5,_,setD⟩:=hx2.flags;obtain⟨g,cap,rfl,_⟩:=G2 rb;simp only at hn2 hd3;refine Ac (RT 30 FS (by kernel_rfl) ?_);have tail:∀d:Bool,d=decide (x.2=true\/most<x.1.nest+1\/long<x.1.b.length)->∃w3 O3,(storeVar 4 ⟨p,3,none⟩ (.bool d)).run prog (w1.drewN 1)= .ok () w3/\Fr O w O3 w3/\
  XSt w0 S p most long ({x.1 with nest:=x.1.nest+1},decide (x.2=true\/most<x.1.nest+1\/long<x.1.b.length)) O3 w3:=by
  rintro d rfl;obtain⟨w3,O3,h1,h2,h3⟩:=setD (decide (x.2=true\/most<x.1.nest+1\/long<x.1.b.length));exact⟨w3,O3,h1,f1.trans (f2.trans h2),h3⟩
 refine Fy V V (Fy V V (HW V V (FY V (λw=>Jb w _ _) V (HV V (Ai D4 hd3) V (Fy V V ?_)))));cases hdx:x.2 with
 |true=>
  refine CW (j:=5) V V V V V (CW (j:=5) V V V V V (CW (j:=5) V V V V V (CW (j:=5) V V V V V (CW (j:=5) V V V V V (CW (j:=5) V V V V V (CW (j:=5) V V V V V
   (CW (j:=5) rfl rfl rfl rfl rfl (CW (j:=5) rfl rfl rfl rfl rfl (Mr rfl rfl rfl (Fy rfl rfl ?_))))))))))
  refine CW (j:=16) V V V V V (CW (j:=16) V V V V V (CW (j:=16) V V V V V (CW (j:=16) V V V V V (CW (j:=16) V V V V V (CW (j:=16) V V V V V
   (CW (j:=16) rfl rfl rfl rfl rfl (CW (j:=16) rfl rfl rfl rfl rfl (CW (j:=16) rfl rfl rfl rfl rfl (CW (j:=16) rfl rfl rfl rfl rfl (Mr rfl rfl rfl ?_))))))))))
  refine HW V V (FY V (λw=>Jb w _ _) V (Mq ?_));obtain⟨w3,O3,hst,f3,hx3⟩:=tail true (by simp[hdx]);refine An V V hst (Ag ?_);rw[hdx]at hx3;obtain⟨_,_,hd,_⟩:=hx3.flags;exact Ac (Ab (Aa V V (AR V V (Ad V (Jb _ _ _) V (Ae V (Ai D4 hd) V (HZ V V (Ah V V (Ag (AJ λa ha=>Ch V ha V ⟨rfl,O3,f3,hx3⟩)))))))))
 |false=>
  refine Et (j:=5) V V V (Fy V V ?_);refine Et (j:=5) V V V (HW V V ?_);refine Et (j:=5) V V V (FY V (λw=>Fi w _ _) V ?_);refine Et (j:=5) V V V (HV V (Ai Bo hn2) V ?_);refine Et (j:=5) V V V (Fy V V ?_);refine Et (j:=5) V V V (HW V V ?_);refine Et (j:=5) V V V (FY V (λw=>Ano w _ _) V ?_);refine Et (j:=5) V V V (HV V (Ai Bo hm4) V ?_);refine Et (j:=5) V V V (OF V V (D2 (c:=decide (most<x.1.nest+1)) (BM.2 (by omega))) V ?_);refine Mr V V V (Fy V V ?_);cases hb1:decide (most<x.1.nest+1)with
  |true=>
   have h1:most<x.1.nest+1:=B7 hb1;refine CW (j:=16) V V V V V (CW (j:=16) V V V V V (CW (j:=16) V V V V V (CW (j:=16) V V V V V (CW (j:=16) V V V V V (CW (j:=16) V V V V V
    (CW (j:=16) rfl rfl rfl rfl rfl (CW (j:=16) rfl rfl rfl rfl rfl (CW (j:=16) rfl rfl rfl rfl rfl (CW (j:=16) rfl rfl rfl rfl rfl (Mr rfl rfl rfl ?_))))))))))
   refine HW V V (FY V (λw=>Jb w _ _) V (Mq ?_));obtain⟨w3,O3,hst,f3,hx3⟩:=tail true (decide_eq_true (.inr (.inl h1))).symm;refine An V V hst (Ag ?_);rw[hdx]at hx3;obtain⟨_,_,hd,_⟩:=hx3.flags;exact Ac (Ab (Aa V V (AR V V (Ad V (Jb _ _ _) V (Ae V (Ai D4 hd) V (HZ V V (Ah V V (Ag (AJ λa ha=>Ch V ha V ⟨rfl,O3,f3,hx3⟩)))))))))
  |false=>
   have h1:¬most<x.1.nest+1:=B2 hb1;refine Et (j:=16) V V V (Fy V V (Et (j:=16) V V V (HW V V (Et (j:=16) V V V (FY V (λw=>Gk w _ _) V
    (Et (j:=16) rfl rfl rfl (HV rfl (Ai C_ hcb) rfl (Et (j:=16) rfl rfl rfl (RM rfl (AM underlying22) rfl ?_)))))))))
   refine Et (j:=16) V V V (Fy V V (Et (j:=16) V V V (HW V V (Et (j:=16) V V V (FY V (λw=>Anp w _ _) V
    (Et (j:=16) rfl rfl rfl (HV rfl (Ai Bo hl5) rfl (Et (j:=16) rfl rfl rfl (OF rfl rfl (D2 (c:=decide (long<x.1.b.length)) (BM.2 (by simp only;omega))) rfl ?_)))))))))
   refine Mr V V V (HW V V (FY V (λw=>Jb w _ _) V (Mq ?_)));obtain⟨w3,O3,hst,f3,hx3⟩:=tail (decide (long<x.1.b.length)) (BM.2 (by simp[h1,hdx]));refine An V V hst (Ag ?_);rw[hdx]at hx3;obtain⟨_,_,hd,_⟩:=hx3.flags;exact Ac (Ab (Aa V V (AR V V (Ad V (Jb _ _ _) V (Ae V (Ai D4 hd) V (HZ V V (Ah V V (Ag (AJ λa ha=>Ch V ha V ⟨rfl,O3,f3,hx3⟩)))))))))
def Du(f:FuncId)(ty:Ty)(t:T):Prop:=
 ∀{w0:World}{S:Nat->Prop}{p most long:Nat}{x:XW}{O:Nat->Prop}{w:World}{cs:List Value},Rep w0 S t ty cs->XSt w0 S p most long x O w->x.1.use+11*t.wt<=2 ^ 40->
  Calls prog f [ptr p,E_ ty cs].toArray w (End (λr w'=>r= .tuple #[]/\∃O',Fr O w O' w'/\XSt w0 S p most long (B1 most long t x) O' w') (λ_ _=>False))
structure XS(w0:World)(S:Nat->Prop)(p most long:Nat)(O:Nat->Prop)(w:World)(r:List T)(tgt:XW)(O1:Nat->Prop)(w1:World)(x1:XW):Prop where
 st:XSt w0 S p most long x1 O1 w1
 fr:Fr O w O1 w1
 eq:Bp most long r x1=tgt
 bud:x1.1.use+11*Bf r<=2 ^ 40
theorem To{most long:Nat}:∀(l r:List T) (x:XW),Bp most long (l++r) x=Bp most long r (Bp most long l x)
 |[],r,x=>by simp only[Dh,Bp]
 |t::l,r,x=>by simp only[CL,Bp,To l r]
section
variable{w0:World}{S:Nat->Prop}{p most long:Nat}{O:Nat->Prop}{w:World}{r:List T}{t:T}{tgt:XW}{O1:Nat->Prop}{w1:World}{x1:XW}
theorem XS.start(h:XSt w0 S p most long x O w)(hu:x.1.use+11*Bf r<=2 ^ 40):XS w0 S p most long O w r (Bp most long r x) O w x:=⟨h,Fr.refl _ _,rfl,hu⟩
theorem XS.hd(h:XS w0 S p most long O w (t::r) tgt O1 w1 x1):x1.1.use+11*t.wt<=2 ^ 40:=by
 have:=h.bud;simp only[Bf]at this;omega
theorem XS.next(h:XS w0 S p most long O w (t::r) tgt O1 w1 x1){O2:Nat->Prop}{w2:World}(f:Fr O1 w1 O2 w2)(hs:XSt w0 S p most long (B1 most long t x1) O2 w2):
 XS w0 S p most long O w r tgt O2 w2 (B1 most long t x1):=by
 have hu:=Py (most:=most) (long:=long) t x1 h.hd;have hb:=h.bud;simp only[Bf]at hb;exact⟨hs,h.fr.trans f,by rw[<-h.eq];simp only[Bp],by omega⟩
variable{cs:List Value}
theorem XS.call(h:XS w0 S p most long O w (t::r) tgt O1 w1 x1){f:FuncId}{ty:Ty}(c:Du f ty t)(hr:Rep w0 S t ty cs):
 Calls prog f [ptr p,E_ ty cs].toArray w1 (End (λv w2=>v= .tuple #[]/\∃O2 x2,XS w0 S p most long O w r tgt O2 w2 x2) (λ_ _=>False)):=
 (c hr h.st h.hd).mono (by
  intro e w2 he;cases e with
  |returned v=>obtain⟨rfl,O2,f,hs⟩:=he;exact⟨rfl,O2,_,h.next f hs⟩
  |panicked ch=>exact he.elim
  |outgrown=>exact he.elim)
variable{l:List T}
theorem XS.len(h:XS w0 S p most long O w (.list l::r) tgt O1 w1 x1):
 Calls prog 137 [ptr p,.int .i64 (l.length:Int)].toArray w1 (End (λv w2=>v= .tuple #[]/\∃O2 x2,XS w0 S p most long O w (l++r) tgt O2 w2 x2) (λ_ _=>False)):=by
 have hb:=h.bud;simp only[Bf,T.wt]at hb;have hll:=JL l;have hu:=Ed (s:=x1.1) (n:=l.length) (by omega);refine(MA (n:=l.length) (by omega) h.st (by omega)).mono ?_;intro e w2 he;cases e with
 |returned v=>
  obtain⟨rfl,O2,f,hs⟩:=he;refine⟨rfl,O2,_,hs,h.fr.trans f,?_,?_⟩
  ·rw[<-h.eq,To];simp only[Bp,B1]
  ·rw[IN];simp only;omega
 |panicked ch=>exact he.elim
 |outgrown=>exact he.elim
variable{sn:SN}
theorem XS.flat(hd:sn.deep=false)(h:XS w0 S p most long O w (.agg sn l::r) tgt O1 w1 x1):XS w0 S p most long O w (l++r) tgt O1 w1 x1:=by
 have hb:=h.bud;simp only[Bf,T.wt]at hb;refine⟨h.st,h.fr,?_,by rw[IN];omega⟩;rw[<-h.eq,To];simp only[Bp,B1,hd]
theorem XS.isNil(h:XS w0 S p most long O w (.nil::r) tgt O1 w1 x1):
 Calls prog 138 [ptr p,.bool false].toArray w1 (End (λv w2=>v= .tuple #[]/\∃O2 x2,XS w0 S p most long O w r tgt O2 w2 x2) (λ_ _=>False)):=by
 have hh:=h.hd;simp only[T.wt]at hh;refine(SJ (b:=false) h.st hh).mono ?_;intro e w2 he;cases e with
 |returned v=>
  obtain⟨rfl,O2,f,hs⟩:=he;exact⟨rfl,O2,_,h.next f (by simp only[B1];exact hs)⟩
 |panicked ch=>exact he.elim
 |outgrown=>exact he.elim
theorem XS.isPtr(h:XS w0 S p most long O w (.ptr t::r) tgt O1 w1 x1):
 Calls prog 138 [ptr p,.bool true].toArray w1 (End (λv w2=>v= .tuple #[]/\∃O2 x2,XS w0 S p most long O w (t::r) tgt O2 w2 x2) (λ_ _=>False)):=by
 have hb:=h.bud;simp only[Bf,T.wt]at hb;have hu:=Ed (s:=x1.1) (n:=1) (by decide);refine(SJ (b:=true) h.st (by omega)).mono ?_;intro e w2 he;cases e with
 |returned v=>
  obtain⟨rfl,O2,f,hs⟩:=he;refine⟨rfl,O2,_,hs,h.fr.trans f,?_,?_⟩
  ·rw[<-h.eq];simp only[Bp,B1];rfl
  ·show(x1.1.num 1).use+_<=_;simp only[Bf];omega
 |panicked ch=>exact he.elim
 |outgrown=>exact he.elim
theorem XS.fin(h:XS w0 S p most long O w [] tgt O1 w1 x1):Fr O w O1 w1/\XSt w0 S p most long tgt O1 w1:=by
 have:=h.eq;simp only[Bp]at this;exact⟨h.fr,this▸h.st⟩
theorem XSt.at_(h:XSt w0 S p most long x O w){b o:Nat}(hS:S b)(hb:b<w0.heap.size)(hA:At w0 b o cs):At w b o cs:=hA.agree (h.inp b hS hb).2
end
def Ty.isSt:Ty->Bool
 | .st _=>true
 |_=>false
variable{tid:Nat}{cs:List Value}{t:T}
theorem AA{f:Ty}{b o:Nat}(hty:AC prog tid f.isSt f.size)(hr:Rep w0 S t f cs)(hA:At w b o cs):
 (loadVar tid ⟨b,o,none⟩).run prog w= .ok (E_ f cs) w:=by
 have hl:=(Rep.one _ _ _ hr).1;cases f with
 |st s=>exact AS hty hl hA
 |_=>
  obtain⟨v,rfl⟩:=O0.1 hl;exact Ai hty (hA 0 v V)
variable{l:List T}{e:Ty}
theorem Ej(h:Rep w0 S (.list l) (.list e) cs):
 ∃g cap,E_ (.list e) cs= .slice g l.length cap/\l.length<=maxLen/\∀(i:Nat) (t:T),l[i]? =some t->∃b o ds,
  (∀{ty et n:Nat}{agg:Bool} (w:World),prog.underlying ty=some (.slice et)->AC prog et agg n->n=e.size->(Instr.indexAt ty (.slice g l.length cap) (.int .i64 (i:Int))).run prog w= .ok (.pointer (some ⟨b,o,none⟩)) w)/\
  S b/\b<w0.heap.size/\At w0 b o ds/\Rep w0 S t e ds:=by
 obtain⟨g,cap,hv,hml,hg⟩:=Qj h;refine⟨g,cap,hv,hml,λi t hi=>?_⟩;have hil:=(C3.1 hi).1;rcases hg with⟨_,rfl⟩|⟨b,o,rfl,hS,hb,hL⟩
 ·cases hi
 ·obtain⟨ds,hA,_,hr⟩:=RepL.get hL hi;refine⟨b,o+i*e.size,ds,λ{ty et n agg} w hu hty hn=>?_,hS,hb,hA,hr⟩;subst hn;exact Dy hu hty (by omega) (by omega)
theorem Bc{b o cap:Nat}{g:Option Addr}(hv:E_ (.list e) cs= .slice g l.length cap)(hty:AC prog tid (Ty.list e).isSt (Ty.list e).size)
 (hr:Rep w0 S (.list l) (.list e) cs) (hA:At w b o cs):(loadVar tid ⟨b,o,none⟩).run prog w= .ok (.slice g l.length cap) w:=hv▸AA hty hr hA
theorem Rep.is_list(h:Rep w0 S t (.list e) cs):∃l,t= .list l:=by
 obtain⟨l,rfl,_⟩:=h.list_inv;exact⟨l,rfl⟩
section
variable{w0:World}{S:Nat->Prop}{p most long:Nat}{O:Nat->Prop}{w:World}{r l:List T}{t:T}{tgt:XW}{O1:Nat->Prop}{w1:World}{x1:XW}{i:Nat}
theorem XS.pop(h:XS w0 S p most long O w (l.drop i++r) tgt O1 w1 x1)(hi:l[i]? =some t):XS w0 S p most long O w (t::(l.drop (i+1)++r)) tgt O1 w1 x1:=by
 obtain⟨hl,rfl⟩:=C3.1 hi;rw[List.drop_eq_getElem_cons hl]at h;exact h
theorem XS.popped(h:XS w0 S p most long O w (l.drop i++r) tgt O1 w1 x1)(hi:i=l.length):XS w0 S p most long O w r tgt O1 w1 x1:=by
 rw[hi,List.drop_length]at h;exact h
end
theorem Dn:Du 139 .int t:=by
 intro w0 S p most long x O w cs hr hx hu;obtain⟨n,rfl,rfl,hn⟩:=hr.int_inv;have:=Afh hn hx (by simpa[T.wt]using hu);simp only[B1];exact this
theorem CU:Du 136 .str t:=by
 intro w0 S p most long x O w cs hr hx hu;obtain⟨n,rfl,rfl,hn⟩:=hr.str_inv;have:=Afg hn hx (by simp only[T.wt]at hu;omega);simp only[B1];exact this
theorem FU:Du 138 .bool t:=by
 intro w0 S p most long x O w cs hr hx hu;obtain⟨n,rfl,rfl⟩:=hr.bool_inv;have:=SJ (b:=n) hx (by simpa[T.wt]using hu);simp only[B1];exact this
theorem L9{m:Nat}(h1:n=m+1)(h2:m<=2 ^ 40):(binOp .sub 3 (.int .i64 (n:Int)) (.int .i64 1)).run prog w= .ok (.int .i64 ((n-1:Nat):Int)) w:=by
 subst h1;rw[L_ (by unfold AP;omega),show((m+1:Nat):Int)-1=((m+1-1:Nat):Int)by omega]
theorem LP(hu:x.1.use+11*(k+1)<=2 ^ 40):x.1.nest<=2 ^ 40:=by simp only[WS.use]at hu;omega
theorem WU(hu:x.1.use+11*(k+1)<=2 ^ 40):x.1.use+11*1<=2 ^ 40:=by omega
theorem LN{d:Bool}(hu:x.1.use+11*(k+1)<=2 ^ 40):(({x.1 with nest:=x.1.nest+1},d):XW).1.use+11*k<=2 ^ 40:=by simp only[WS.use]at*;omega
variable{sn:SN}
theorem WT(hu:x.1.use+11*(T.agg sn l).wt<=2 ^ 40):x.1.use+11*(Bf l+1)<=2 ^ 40:=by rw[Dj]at hu;exact hu
theorem LO(hu:x.1.use+11*(T.agg sn l).wt<=2 ^ 40):x.1.use+11*Bf l<=2 ^ 40:=by rw[Dj]at hu;omega
theorem I8(hu:x.1.use+11*t.wt<=2 ^ 40):x.1.use+11*Bf [t]<=2 ^ 40:=by simp only[Bf];omega
theorem DN(h:i<n)(hm:n<=maxLen):i<9223372036854775807:=BB h hm
variable{N:Nat}
theorem Ya{fl:List T}(hm:t∈fl)(hN:(T.agg sn fl).wt<=N):t.wt<N:=by
 have:=Dt hm;rw[Dj]at hN;omega
theorem Asr(h:(T.ptr t).wt<N):t.wt<N:=by simp only[T.wt]at h;omega
variable{v:Value}
theorem My{b o:Nat}(hp:cs=[v])(hA:At w b o cs):w.cell? ⟨b,o,none⟩=some v:=by
 subst hp;exact hA 0 v V
theorem Amw(hw:t.wt<=Bf l):t.wt<(T.list l).wt:=by rw[OG];omega
theorem JZ{fl:List T}(hm:t∈fl)(hw:(T.agg sn fl).wt<=Bf l)(hN:(T.list l).wt<=N):t.wt<N:=by
 have:=Dt hm;rw[Dj]at hw;rw[OG]at hN;omega
theorem Tq(hd:sn.deep=true)(hC:x.2=true\/most<x.1.nest+1\/long<x.1.b.length):B1 most long (.agg sn l) x=({x.1 with nest:=x.1.nest+1-1},true):=by
 simp only[B1,hd];rw[if_pos hC];rfl
theorem Tp(hd:sn.deep=true)(hC:¬(x.2=true\/most<x.1.nest+1\/long<x.1.b.length)):B1 most long (.agg sn l) x=(Bp most long l ({x.1 with nest:=x.1.nest+1},false)).up:=by
 simp only[B1,hd];rw[if_neg hC]
section
variable{w0:World}{S:Nat->Prop}{p most long:Nat}{O:Nat->Prop}{w w':World}{x:XW}
def plus(w0:World)(S:Nat->Prop)(bx:Nat)(b:Nat):Prop:=(S b/\b<w0.heap.size)\/b=bx
theorem XSt.rebase(h:XSt w0 S p most long x O w)(f:Fr (λ_=>False) w (λ_=>False) w'){bx:Nat}(h1:w.heap.size<=bx)(h2:bx<w'.heap.size):XSt w' (plus w0 S bx) p most long x O w':=by
 have h':=h.other f (λ_ hf=>hf.elim);refine⟨λb hb _=>⟨?_,rfl⟩,h'.lt,Ay _,h'.mem,h'.tabs⟩;rcases hb with⟨hS,hl⟩|rfl
 ·exact(h.inp b hS hl).1
 ·exactλho=>by have:=h.lt _ ho;omega
theorem XSt.unbase(h:XSt w0 S p most long x O w)(f:Fr (λ_=>False) w (λ_=>False) w'){bx:Nat}{x':XW}{O':Nat->Prop}{w2:World}(k:XSt w' (plus w0 S bx) p most long x' O' w2):XSt w0 S p most long x' O' w2:=by
 refine⟨λb hS hl=>?_,k.lt,AX h.base (AX f.size k.base),k.mem,k.tabs⟩;have hbw:=BB hl h.base;have:=k.inp b (.inl ⟨hS,hl⟩) (BB hbw f.size);exact⟨this.1,by rw[this.2,f.blk b hbw (λh=>h),(h.inp b hS hl).2]⟩
theorem Rep.plus(h:XSt w0 S p most long x O w)(f:Fr (λ_=>False) w (λ_=>False) w')(bx:Nat){ty:Ty}(hr:Rep w0 S t ty cs):Rep w' (plus w0 S bx) t ty cs:=
 Rep.agree (λb hb hl=>⟨.inl ⟨hb,hl⟩,BB hl (AX h.base f.size),by rw[f.blk b (BB hl h.base) (λh=>h),(h.inp b hb hl).2]⟩) _ _ _ hr
end
theorem Q5{z:Value}{zs:List Value}(hty:AC prog tid true N)(hz:z.cells=zs.toArray)(hzl:zs.length=N)(hl:cs.length=N)(h1:∀x∈cs,x.oneCell'=true):
 ∃w',(storeVar tid ⟨w.heap.size,0,none⟩ (.agg cs.toArray)).run prog (w.alloc (.cells z.cells tid))= .ok () w'/\Blk w' w.heap.size cs tid/\Fr (λ_=>False) w (λ_=>False) w':=by
 have a:Blk (w.alloc (.cells z.cells tid)) w.heap.size zs tid:=by rw[hz];exact Cf
 have hst:=CG (v:=.agg cs.toArray) hty rfl hl h1 a (o:=0) (by omega);rw[show Ci zs 0 cs=cs by simp[Ci,hl,hzl]]at hst;refine⟨_,hst,a.setRow _,⟨rfl,rfl,rfl,by simp,λb hb _=>?_,λb hb=>hb.elim⟩⟩;rw[setRow_other _ _ _ _ (by omega),heap_alloc_old w _ b hb]
theorem Avt:Du 202 (.st .atom) t:=by
 intro w0 S p most long x O w cs hr hx hu;refine AE 12 func202 V V V ?_;refine Ac (Ab (Cy (v:=.agg cs.toArray) V V ?_));have fb:Fr (λ_=>False) w (λ_=>False) (w.alloc (.cells cs.toArray 59)):=Fr.alloc _ _ _;have ab:Blk (w.alloc (.cells cs.toArray 59)) w.heap.size cs 59:=Cf;have hx1:=hx.rebase fb (Ay _) ab.lt;have hr1:=hr.plus hx fb w.heap.size;show WL _ _ _ _ _ _ _ (w.alloc (.cells cs.toArray 59));generalize w.alloc (.cells cs.toArray 59)=wb at fb ab hx1 hr1⊢;generalize w.heap.size=bx at ab hx1 hr1⊢;have hA:=ab.all;have hlt:=ab.lt;have hS:plus w0 S bx bx:=.inr rfl;obtain⟨fl1,rfl,hlen1,hF1⟩:=hr1.st_inv;obtain⟨a1_0,fl1,rfl,r1_0,hF1⟩:=hF1.cons_inv;obtain⟨a1_1,fl1,rfl,r1_1,hF1⟩:=hF1.cons_inv;obtain rfl:=hF1.nil_inv;simp only[BO,Ty.size]at r1_0 r1_1;have h:=XS.start (r:=[a1_0,a1_1]) hx1 (LO hu);refine Aj [(0,ptr p),(3,ptr bx)] ⟨V,V,trivial⟩ ?_;refine Ac (Ab (Aa V V (Ad V (U5 _ _ _) V (Ae V (AA (f:=.int) AQ r1_0 (h.st.at_ hS hlt (hA.sub 0 1))) V (Af call139 V V (h.call Dn r1_0) ?_ Am)))));rintro _ w1 ⟨rfl,O1,x1,h⟩;refine Ag ?_;refine Ab (Aa V V (Ad V (U6 _ _ _) V (Ae V (AA (f:=.str) AK r1_1 (h.st.at_ hS hlt (hA.sub 1 1))) V (Af call136 V V (h.call CU r1_1) ?_ Am))));rintro _ w1 ⟨rfl,O1,x1,h⟩;refine A2 λa ha=>?_;obtain⟨ff,hs⟩:=h.fin;exact B9 V ha ⟨rfl,O1,(fb.drop (λ_ h=>h.elim)).trans ff,hx.unbase fb hs⟩
theorem Ads:Du 203 (.st .test) t:=by
 intro w0 S p most long x O w cs hr hx hu;refine AE 12 func203 V V V ?_;refine Ac (Ab (Cy (v:=.agg cs.toArray) V V ?_));have fb:Fr (λ_=>False) w (λ_=>False) (w.alloc (.cells cs.toArray 61)):=Fr.alloc _ _ _;have ab:Blk (w.alloc (.cells cs.toArray 61)) w.heap.size cs 61:=Cf;have hx1:=hx.rebase fb (Ay _) ab.lt;have hr1:=hr.plus hx fb w.heap.size;show WL _ _ _ _ _ _ _ (w.alloc (.cells cs.toArray 61));generalize w.alloc (.cells cs.toArray 61)=wb at fb ab hx1 hr1⊢;generalize w.heap.size=bx at ab hx1 hr1⊢;have hA:=ab.all;have hlt:=ab.lt;have hS:plus w0 S bx bx:=.inr rfl;obtain⟨fl2,rfl,hlen2,hF2⟩:=hr1.st_inv;obtain⟨a2_0,fl2,rfl,r2_0,hF2⟩:=hF2.cons_inv;obtain⟨a2_1,fl2,rfl,r2_1,hF2⟩:=hF2.cons_inv;obtain rfl:=hF2.nil_inv;simp only[BO,Ty.size]at r2_0 r2_1;have h:=XS.start (r:=[a2_0,a2_1]) hx1 (LO hu);refine Aj [(0,ptr p),(3,ptr bx)] ⟨V,V,trivial⟩ ?_;refine Ac (Ab (Aa V V (Ad V (Zr _ _ _) V (Ae V (AA (f:=.int) AQ r2_0 (h.st.at_ hS hlt (hA.sub 0 1))) V (Af call139 V V (h.call Dn r2_0) ?_ Am)))));rintro _ w1 ⟨rfl,O1,x1,h⟩;refine Ag ?_;refine Ab (Aa V V (Ad V (Zs _ _ _) V (Ae V (AA (f:=.str) AK r2_1 (h.st.at_ hS hlt (hA.sub 1 1))) V (Af call136 V V (h.call CU r2_1) ?_ Am))));rintro _ w1 ⟨rfl,O1,x1,h⟩;refine A2 λa ha=>?_;obtain⟨ff,hs⟩:=h.fin;exact B9 V ha ⟨rfl,O1,(fb.drop (λ_ h=>h.elim)).trans ff,hx.unbase fb hs⟩
theorem Of:Du 201 (.st .type) t:=by
 intro w0 S p most long x O w cs hr hx hu;refine AE 20 func201 V V V ?_;refine Ac (Ab (Cy (v:=.agg cs.toArray) V V ?_));have fb:Fr (λ_=>False) w (λ_=>False) (w.alloc (.cells cs.toArray 63)):=Fr.alloc _ _ _;have ab:Blk (w.alloc (.cells cs.toArray 63)) w.heap.size cs 63:=Cf;have hx1:=hx.rebase fb (Ay _) ab.lt;have hr1:=hr.plus hx fb w.heap.size;show WL _ _ _ _ _ _ _ (w.alloc (.cells cs.toArray 63));generalize w.alloc (.cells cs.toArray 63)=wb at fb ab hx1 hr1⊢;generalize w.heap.size=bx at ab hx1 hr1⊢;have hA:=ab.all;have hlt:=ab.lt;have hS:plus w0 S bx bx:=.inr rfl;obtain⟨fl3,rfl,hlen3,hF3⟩:=hr1.st_inv;obtain⟨a3_0,fl3,rfl,r3_0,hF3⟩:=hF3.cons_inv;obtain⟨a3_1,fl3,rfl,r3_1,hF3⟩:=hF3.cons_inv;obtain⟨a3_2,fl3,rfl,r3_2,hF3⟩:=hF3.cons_inv;obtain⟨a3_3,fl3,rfl,r3_3,hF3⟩:=hF3.cons_inv;obtain rfl:=hF3.nil_inv;simp only[BO,Nat.reduceAdd,Ty.size,SN.size]at r3_0 r3_1 r3_2 r3_3;have h:=XS.start (r:=[a3_0,a3_1,a3_2,a3_3]) hx1 (LO hu);refine Aj [(0,ptr p),(3,ptr bx)] ⟨V,V,trivial⟩ ?_;refine Ac (Ab (Aa V V (Ad V (U7 _ _ _) V (Ae V (AA (f:=.int) AQ r3_0 (h.st.at_ hS hlt (hA.sub 0 1))) V (Af call139 V V (h.call Dn r3_0) ?_ Am)))));rintro _ w1 ⟨rfl,O1,x1,h⟩;refine Ag ?_;refine Ac (Ab (Aa V V (Ad V (U8 _ _ _) V (Ae V (AA (f:=.int) AQ r3_1 (h.st.at_ hS hlt (hA.sub 1 1))) V (Af call139 V V (h.call Dn r3_1) ?_ Am)))));rintro _ w1 ⟨rfl,O1,x1,h⟩;refine Ag ?_;refine Ac (Ab (Aa V V (Ad V (U9 _ _ _) V (Ae V (AA (f:=.st .test) Is r3_2 (h.st.at_ hS hlt (hA.sub 2 2))) V (Af call203 V V (h.call Ads r3_2) ?_ Am)))));rintro _ w1 ⟨rfl,O1,x1,h⟩;refine Ag ?_;refine Ab (Aa V V (Ad V (U_ _ _ _) V (Ae V (AA (f:=.str) AK r3_3 (h.st.at_ hS hlt (hA.sub 4 1))) V (Af call136 V V (h.call CU r3_3) ?_ Am))));rintro _ w1 ⟨rfl,O1,x1,h⟩;refine A2 λa ha=>?_;obtain⟨ff,hs⟩:=h.fin;exact B9 V ha ⟨rfl,O1,(fb.drop (λ_ h=>h.elim)).trans ff,hx.unbase fb hs⟩
theorem Xc:Du 145 (.list (.str)) t:=by
 intro w0 S p most long x O w cs hr hx hu;obtain⟨l,rfl⟩:=hr.is_list;obtain⟨g,cap,hv,hml,hget⟩:=Ej hr;rw[hv];have h:=XS.start (r:=[.list l]) hx (I8 hu);refine AE 21 func145 V V V ?_;refine Ac (Ab (Aa V V (Aa V V (AI V (AM underlying44) V (Af call137 V V h.len ?_ Am)))));rintro _ w1 ⟨rfl,O1,x1,h⟩;refine Ag (Ac (Ab (Ah V V (Ag ?_))));refine AF (BP (ι:=Nat×(Nat->Prop)×XW×World) (λi=>[(0,ptr p),(1,.slice g l.length cap),(4,.int .i64 (i.1:Int))])
  (λi w'=>w'=i.2.2.2/\i.1<=l.length/\XS w0 S p most long O w (l.drop i.1++[]) (Bp most long [.list l] x) i.2.1 w' i.2.2.1) (λi=>l.length-i.1) (0,O1,x1,w1) ⟨V,V,V,trivial⟩ ⟨rfl,AW _,h⟩ ?_)
 clear h;rintro⟨i,O1,x1,_⟩ w1 ⟨rfl,hi,h⟩;simp only at hi h⊢;refine Ac (Ac (Ab (Aa V V (Aa V V (AI V (AM underlying44) V (Al V V (CR (c:=decide (i<l.length)) (BM.2 DR.symm)) V (Ag (AN V (λht=>AG λa ha=>Ak ?_) (λhf=>BC λa ha=>AD (AD (B_ ?_)))))))))))
 ·have hil:i<l.length:=B7 ht;obtain⟨t,hti⟩:∃t,l[i]? =some t:=⟨_,Bm hil⟩;obtain⟨b,o,ds,hix,hS,hlt,hA,hr1⟩:=hget i t hti;have hw:=Dt (BA hti);replace h:=h.pop hti;refine A6 ha (Ac (AF ?_));refine Ab (Aa V V (Aa V V (Aa V V (AO V V (hix _ underlying44 AK V) V (Ae V (AA (f:=.str) AK hr1 (h.st.at_ hS hlt hA)) V (Af call136 V V (h.call CU hr1) ?_ Am))))));rintro _ w1 ⟨rfl,O1,x1,h⟩;refine A2 λa ha=>BK (Ak ?_);refine A6 ha (Ab (Aa V V (Al V V V V (Ah V V (A2 λa ha=>Ak ?_)))));exact⟨(i+1,O1,x1,w1),ha.weak ⟨rfl,rfl,congrArg some (Cl (DN hil hml)),trivial⟩,⟨rfl,hil,h⟩,DI hil (Cb i)⟩
 ·have hend:i=l.length:=Eb hi (Ec (B2 hf));obtain⟨ff,hs⟩:=(h.popped hend).fin;simp only[Bp]at hs;exact B9 V ha ⟨rfl,O1,ff,hs⟩
theorem Adq(ih:∀t',t'.wt<t.wt->Du 144 (.st .expr) t'):Du 143 (.list (.st .expr)) t:=by
 intro w0 S p most long x O w cs hr hx hu;obtain⟨l,rfl⟩:=hr.is_list;obtain⟨g,cap,hv,hml,hget⟩:=Ej hr;rw[hv];have h:=XS.start (r:=[.list l]) hx (I8 hu);refine AE 21 func143 V V V ?_;refine Ac (Ab (Aa V V (Aa V V (AI V (AM underlying64) V (Af call137 V V h.len ?_ Am)))));rintro _ w1 ⟨rfl,O1,x1,h⟩;refine Ag (Ac (Ab (Ah V V (Ag ?_))));refine AF (BP (ι:=Nat×(Nat->Prop)×XW×World) (λi=>[(0,ptr p),(1,.slice g l.length cap),(4,.int .i64 (i.1:Int))])
  (λi w'=>w'=i.2.2.2/\i.1<=l.length/\XS w0 S p most long O w (l.drop i.1++[]) (Bp most long [.list l] x) i.2.1 w' i.2.2.1) (λi=>l.length-i.1) (0,O1,x1,w1) ⟨V,V,V,trivial⟩ ⟨rfl,AW _,h⟩ ?_)
 clear h;rintro⟨i,O1,x1,_⟩ w1 ⟨rfl,hi,h⟩;simp only at hi h⊢;refine Ac (Ac (Ab (Aa V V (Aa V V (AI V (AM underlying64) V (Al V V (CR (c:=decide (i<l.length)) (BM.2 DR.symm)) V (Ag (AN V (λht=>AG λa ha=>Ak ?_) (λhf=>BC λa ha=>AD (AD (B_ ?_)))))))))))
 ·have hil:i<l.length:=B7 ht;obtain⟨t,hti⟩:∃t,l[i]? =some t:=⟨_,Bm hil⟩;obtain⟨b,o,ds,hix,hS,hlt,hA,hr1⟩:=hget i t hti;have hw:=Dt (BA hti);replace h:=h.pop hti;refine A6 ha (Ac (AF ?_));refine Ab (Aa V V (Aa V V (Aa V V (AO V V (hix _ underlying64 Cr V) V (Ae V (AA (f:=.st .expr) Cr hr1 (h.st.at_ hS hlt hA)) V (Af call144 V V (h.call (ih _ (Amw hw)) hr1) ?_ Am))))));rintro _ w1 ⟨rfl,O1,x1,h⟩;refine A2 λa ha=>BK (Ak ?_);refine A6 ha (Ab (Aa V V (Al V V V V (Ah V V (A2 λa ha=>Ak ?_)))));exact⟨(i+1,O1,x1,w1),ha.weak ⟨rfl,rfl,congrArg some (Cl (DN hil hml)),trivial⟩,⟨rfl,hil,h⟩,DI hil (Cb i)⟩
 ·have hend:i=l.length:=Eb hi (Ec (B2 hf));obtain⟨ff,hs⟩:=(h.popped hend).fin;simp only[Bp]at hs;exact B9 V ha ⟨rfl,O1,ff,hs⟩
theorem Avr:∀(N:Nat) (t:T),t.wt<=N->Du 144 (.st .expr) t:=by
 intro N;induction N using Nat.strongRecOn with
 |_ N IH=>
 intro t hN;intro w0 S p most long x O w cs hr hx hu;refine AE 53 func144 V V V ?_;refine Ac (Ab (Cy (v:=.agg cs.toArray) V V ?_));have fb:Fr (λ_=>False) w (λ_=>False) (w.alloc (.cells cs.toArray 66)):=Fr.alloc _ _ _;have ab:Blk (w.alloc (.cells cs.toArray 66)) w.heap.size cs 66:=Cf;have hx1:=hx.rebase fb (Ay _) ab.lt;have hr1:=hr.plus hx fb w.heap.size;show WL _ _ _ _ _ _ _ (w.alloc (.cells cs.toArray 66));generalize w.alloc (.cells cs.toArray 66)=wb at fb ab hx1 hr1⊢;generalize w.heap.size=bx at ab hx1 hr1⊢;have hA:=ab.all;have hlt:=ab.lt;have hS:plus w0 S bx bx:=.inr rfl;obtain⟨fl4,rfl,hlen4,hF4⟩:=hr1.st_inv;obtain⟨a4_0,fl4,rfl,r4_0,hF4⟩:=hF4.cons_inv;obtain⟨a4_1,fl4,rfl,r4_1,hF4⟩:=hF4.cons_inv;obtain⟨a4_2,fl4,rfl,r4_2,hF4⟩:=hF4.cons_inv;obtain⟨a4_3,fl4,rfl,r4_3,hF4⟩:=hF4.cons_inv;obtain⟨a4_4,fl4,rfl,r4_4,hF4⟩:=hF4.cons_inv;obtain⟨a4_5,fl4,rfl,r4_5,hF4⟩:=hF4.cons_inv;obtain⟨a4_6,fl4,rfl,r4_6,hF4⟩:=hF4.cons_inv;obtain⟨a4_7,fl4,rfl,r4_7,hF4⟩:=hF4.cons_inv;obtain⟨a4_8,fl4,rfl,r4_8,hF4⟩:=hF4.cons_inv;obtain⟨a4_9,fl4,rfl,r4_9,hF4⟩:=hF4.cons_inv;obtain rfl:=hF4.nil_inv;simp only[BO,Nat.reduceAdd,Ty.size,SN.size]at r4_0 r4_1 r4_2 r4_3 r4_4 r4_5 r4_6 r4_7 r4_8 r4_9;replace hu:=WT hu;refine Aj [(0,ptr p),(3,ptr bx)] ⟨V,V,trivial⟩ ?_;refine Ac (Ac (Ab (Aa V V (Af call135 V V (SI hx1 (WU hu)) ?_ Am))));rintro _ w1 ⟨rfl,O1,fd,hx2⟩;refine Ag (AN V (λht=>?_) (λhf=>AG λa ha=>Ak ?_))
 ·have hC:¬(x.2=true\/most<x.1.nest+1\/long<x.1.b.length):=by simpa only[JF,decide_eq_false_iff_not]using ht
  rw[decide_eq_false hC]at hx2;have h:=XS.start (r:=[a4_0,a4_1,a4_2,a4_3,a4_4,a4_5,a4_6,a4_7,a4_8,a4_9]) hx2 (LN hu);refine Ac (Ab (Aa V V (Ad V (UA _ _ _) V (Ae V (AA (f:=.int) AQ r4_0 (h.st.at_ hS hlt (hA.sub 0 1))) V (Af call139 V V (h.call Dn r4_0) ?_ Am)))));rintro _ w1 ⟨rfl,O1,x1,h⟩;refine Ag ?_;refine Ac (Ab (Aa V V (Ad V (UB _ _ _) V (Ae V (AA (f:=.str) AK r4_1 (h.st.at_ hS hlt (hA.sub 1 1))) V (Af call136 V V (h.call CU r4_1) ?_ Am)))));rintro _ w1 ⟨rfl,O1,x1,h⟩;refine Ag ?_;refine Ac (Ab (Aa V V (Ad V (UC _ _ _) V (Ae V (AA (f:=.str) AK r4_2 (h.st.at_ hS hlt (hA.sub 2 1))) V (Af call136 V V (h.call CU r4_2) ?_ Am)))));rintro _ w1 ⟨rfl,O1,x1,h⟩;refine Ag ?_;refine Ac (Ab (Aa V V (Ad V (UD _ _ _) V (Ae V (AA (f:=.int) AQ r4_3 (h.st.at_ hS hlt (hA.sub 3 1))) V (Af call139 V V (h.call Dn r4_3) ?_ Am)))));rintro _ w1 ⟨rfl,O1,x1,h⟩;refine Ag ?_;refine Ac (Ab (Aa V V (Ad V (MY _ _ _) V (Ae V (AA (f:=.st .atom) Aae r4_4 (h.st.at_ hS hlt (hA.sub 4 2))) V (Af call202 V V (h.call Avt r4_4) ?_ Am)))));rintro _ w1 ⟨rfl,O1,x1,h⟩;refine Ag ?_;refine Ac (Ab (Aa V V (Ad V (UE _ _ _) V (Ae V (AA (f:=.int) AQ r4_5 (h.st.at_ hS hlt (hA.sub 6 1))) V (Af call139 V V (h.call Dn r4_5) ?_ Am)))));rintro _ w1 ⟨rfl,O1,x1,h⟩;refine Ag ?_;refine Ac (Ab (Aa V V (Ad V (UF _ _ _) V (Ae V (AA (f:=.st .test) Is r4_6 (h.st.at_ hS hlt (hA.sub 7 2))) V (Af call203 V V (h.call Ads r4_6) ?_ Am)))));rintro _ w1 ⟨rfl,O1,x1,h⟩;refine Ag ?_;refine Ac (Ab (Aa V V (Ad V (UG _ _ _) V (Ae V (AA (f:=.st .type) Ex r4_7 (h.st.at_ hS hlt (hA.sub 9 5))) V (Af call201 V V (h.call Of r4_7) ?_ Am)))));rintro _ w1 ⟨rfl,O1,x1,h⟩;refine Ag ?_;refine Ac (Ab (Aa V V (Ad V (UH _ _ _) V (Ae V (AA (f:=.list (.str)) Ei r4_8 (h.st.at_ hS hlt (hA.sub 14 1))) V (Af call145 V V (h.call Xc r4_8) ?_ Am)))));rintro _ w1 ⟨rfl,O1,x1,h⟩;refine Ag ?_;refine Ab (Aa V V (Ad V (UI _ _ _) V (Ae V (AA (f:=.list (.st .expr)) FP r4_9 (h.st.at_ hS hlt (hA.sub 15 1))) V (Af call143 V V (h.call (Adq (λt' ht=>IH t'.wt (RI ht (Ya (by simp) hN)) t' (Ay _))) r4_9) ?_ Am))));rintro _ w1 ⟨rfl,O1,x1,h⟩;refine A2 λa ha=>Ak ?_;obtain⟨ff,hs⟩:=h.fin;have hnn:(Bp most long [a4_0,a4_1,a4_2,a4_3,a4_4,a4_5,a4_6,a4_7,a4_8,a4_9] ({x.1 with nest:=x.1.nest+1},false)).1.nest=x.1.nest+1:=(JV (most:=most) (long:=long) [a4_0,a4_1,a4_2,a4_3,a4_4,a4_5,a4_6,a4_7,a4_8,a4_9] ({x.1 with nest:=x.1.nest+1},false) (LN hu)).2;have e:=Tp (most:=most) (long:=long) (l:=[a4_0,a4_1,a4_2,a4_3,a4_4,a4_5,a4_6,a4_7,a4_8,a4_9]) (sn:=.expr) (x:=x) rfl hC;clear h;generalize Bp most long [a4_0,a4_1,a4_2,a4_3,a4_4,a4_5,a4_6,a4_7,a4_8,a4_9] ({x.1 with nest:=x.1.nest+1},false)=tgt at hs hnn e;obtain⟨_,hc2,_,_,_,setN,_⟩:=hs.flags;obtain⟨w2,O2,hstu,fu,hu2⟩:=setN (tgt.1.nest-1);refine A6 ha (Ab (Aa V V (AR V V (Ad V (Fi _ _ _) V (Ae V (Ai Bo hc2) V (Al V V (L9 hnn (LP hu)) V (AR V V (Ad V (Fi _ _ _) V (An V V hstu (A2 λa ha=>?_))))))))));rw[e];exact B9 V ha ⟨rfl,O2,(fb.drop (λ_ h=>h.elim)).trans (fd.trans (ff.trans fu)),hx.unbase fb hu2⟩
 ·have hC:x.2=true\/most<x.1.nest+1\/long<x.1.b.length:=by simpa only[Oo,decide_eq_true_eq]using hf
  rw[decide_eq_true hC]at hx2;have hnn:x.1.nest+1=x.1.nest+1:=rfl;obtain⟨_,hc2,_,_,_,setN,_⟩:=hx2.flags;simp only at hc2 setN;obtain⟨w2,O2,hstu,fu,hu2⟩:=setN (x.1.nest+1-1);refine A6 ha (Ab (Aa V V (AR V V (Ad V (Fi _ _ _) V (Ae V (Ai Bo hc2) V (Al V V (L9 hnn (LP hu)) V (AR V V (Ad V (Fi _ _ _) V (An V V hstu (A2 λa ha=>?_))))))))));have e:=Tq (most:=most) (long:=long) (l:=[a4_0,a4_1,a4_2,a4_3,a4_4,a4_5,a4_6,a4_7,a4_8,a4_9]) (sn:=.expr) (x:=x) rfl hC;rw[e];exact B9 V ha ⟨rfl,O2,(fb.drop (λ_ h=>h.elim)).trans (fd.trans fu),hx.unbase fb hu2⟩
theorem G9:Du 144 (.st .expr) t:=Avr t.wt t (Ay _)
theorem Xd:Du 143 (.list (.st .expr)) t:=Adq (λ_ _=>G9)
theorem Adt:Du 244 (.list (.st .part)) t:=by
 intro w0 S p most long x O w cs hr hx hu;obtain⟨l,rfl⟩:=hr.is_list;obtain⟨g,cap,hv,hml,hget⟩:=Ej hr;rw[hv];have h:=XS.start (r:=[.list l]) hx (I8 hu);refine AE 36 func244 V V V ?_;refine Ac (Ab (Aa V V (Aa V V (AI V (AM underlying57) V (Af call137 V V h.len ?_ Am)))));rintro _ w1 ⟨rfl,O1,x1,h⟩;refine Ag (Ac (Ab (Ah V V (Ag ?_))));refine AF (BP (ι:=Nat×(Nat->Prop)×XW×World) (λi=>[(0,ptr p),(1,.slice g l.length cap),(4,.int .i64 (i.1:Int))])
  (λi w'=>w'=i.2.2.2/\i.1<=l.length/\XS w0 S p most long O w (l.drop i.1++[]) (Bp most long [.list l] x) i.2.1 w' i.2.2.1) (λi=>l.length-i.1) (0,O1,x1,w1) ⟨V,V,V,trivial⟩ ⟨rfl,AW _,h⟩ ?_)
 clear h;rintro⟨i,O1,x1,_⟩ w1 ⟨rfl,hi,h⟩;simp only at hi h⊢;refine Ac (Ac (Ab (Aa V V (Aa V V (AI V (AM underlying57) V (Al V V (CR (c:=decide (i<l.length)) (BM.2 DR.symm)) V (Ag (AN V (λht=>AG λa ha=>Ak ?_) (λhf=>BC λa ha=>AD (AD (B_ ?_)))))))))))
 ·have hil:i<l.length:=B7 ht;obtain⟨t,hti⟩:∃t,l[i]? =some t:=⟨_,Bm hil⟩;obtain⟨b,o,ds,hix,hS,hlt,hA,hr1⟩:=hget i t hti;have hw:=Dt (BA hti);replace h:=h.pop hti;refine A6 ha (Ac (AF ?_));obtain⟨fl5,rfl,hlen5,hF5⟩:=hr1.st_inv;obtain⟨a5_0,fl5,rfl,r5_0,hF5⟩:=hF5.cons_inv;obtain⟨a5_1,fl5,rfl,r5_1,hF5⟩:=hF5.cons_inv;obtain⟨a5_2,fl5,rfl,r5_2,hF5⟩:=hF5.cons_inv;obtain rfl:=hF5.nil_inv;simp only[BO,Nat.reduceAdd,Ty.size,SN.size]at r5_0 r5_1 r5_2;replace h:=h.flat rfl;refine Ac (Ab (Aa V V (Aa V V (Aa V V (AO V V (hix _ underlying57 Jm V) V (Ad V (Us _ _ _) V (Ae V (AA (f:=.str) AK r5_0 (h.st.at_ hS hlt (hA.sub 0 1))) V (Af call136 V V (h.call CU r5_0) ?_ Am))))))));rintro _ w1 ⟨rfl,O1,x1,h⟩;refine Ag ?_;refine Ac (Ab (Aa V V (Aa V V (Aa V V (AO V V (hix _ underlying57 Jm V) V (Ad V (Ut _ _ _) V (Ae V (AA (f:=.bool) Cm r5_1 (h.st.at_ hS hlt (hA.sub 1 1))) V (Af call138 V V (h.call FU r5_1) ?_ Am))))))));rintro _ w1 ⟨rfl,O1,x1,h⟩;refine Ag ?_;refine Ab (Aa V V (Aa V V (Aa V V (AO V V (hix _ underlying57 Jm V) V (Ad V (Uu _ _ _) V (Ae V (AA (f:=.st .expr) Cr r5_2 (h.st.at_ hS hlt (hA.sub 2 16))) V (Af call144 V V (h.call G9 r5_2) ?_ Am)))))));rintro _ w1 ⟨rfl,O1,x1,h⟩;refine A2 λa ha=>BK (Ak ?_);refine A6 ha (Ab (Aa V V (Al V V V V (Ah V V (A2 λa ha=>Ak ?_)))));exact⟨(i+1,O1,x1,w1),ha.weak ⟨rfl,rfl,congrArg some (Cl (DN hil hml)),trivial⟩,⟨rfl,hil,h⟩,DI hil (Cb i)⟩
 ·have hend:i=l.length:=Eb hi (Ec (B2 hf));obtain⟨ff,hs⟩:=(h.popped hend).fin;simp only[Bp]at hs;exact B9 V ha ⟨rfl,O1,ff,hs⟩
theorem Adu:Du 245 (.list (.st .sort)) t:=by
 intro w0 S p most long x O w cs hr hx hu;obtain⟨l,rfl⟩:=hr.is_list;obtain⟨g,cap,hv,hml,hget⟩:=Ej hr;rw[hv];have h:=XS.start (r:=[.list l]) hx (I8 hu);refine AE 43 func245 V V V ?_;refine Ac (Ab (Aa V V (Aa V V (AI V (AM underlying67) V (Af call137 V V h.len ?_ Am)))));rintro _ w1 ⟨rfl,O1,x1,h⟩;refine Ag (Ac (Ab (Ah V V (Ag ?_))));refine AF (BP (ι:=Nat×(Nat->Prop)×XW×World) (λi=>[(0,ptr p),(1,.slice g l.length cap),(4,.int .i64 (i.1:Int))])
  (λi w'=>w'=i.2.2.2/\i.1<=l.length/\XS w0 S p most long O w (l.drop i.1++[]) (Bp most long [.list l] x) i.2.1 w' i.2.2.1) (λi=>l.length-i.1) (0,O1,x1,w1) ⟨V,V,V,trivial⟩ ⟨rfl,AW _,h⟩ ?_)
 clear h;rintro⟨i,O1,x1,_⟩ w1 ⟨rfl,hi,h⟩;simp only at hi h⊢;refine Ac (Ac (Ab (Aa V V (Aa V V (AI V (AM underlying67) V (Al V V (CR (c:=decide (i<l.length)) (BM.2 DR.symm)) V (Ag (AN V (λht=>AG λa ha=>Ak ?_) (λhf=>BC λa ha=>AD (AD (B_ ?_)))))))))))
 ·have hil:i<l.length:=B7 ht;obtain⟨t,hti⟩:∃t,l[i]? =some t:=⟨_,Bm hil⟩;obtain⟨b,o,ds,hix,hS,hlt,hA,hr1⟩:=hget i t hti;have hw:=Dt (BA hti);replace h:=h.pop hti;refine A6 ha (Ac (AF ?_));obtain⟨fl6,rfl,hlen6,hF6⟩:=hr1.st_inv;obtain⟨a6_0,fl6,rfl,r6_0,hF6⟩:=hF6.cons_inv;obtain⟨a6_1,fl6,rfl,r6_1,hF6⟩:=hF6.cons_inv;obtain⟨a6_2,fl6,rfl,r6_2,hF6⟩:=hF6.cons_inv;obtain⟨a6_3,fl6,rfl,r6_3,hF6⟩:=hF6.cons_inv;obtain rfl:=hF6.nil_inv;simp only[BO,Nat.reduceAdd,Ty.size,SN.size]at r6_0 r6_1 r6_2 r6_3;replace h:=h.flat rfl;refine Ac (Ab (Aa V V (Aa V V (Aa V V (AO V V (hix _ underlying67 Iq V) V (Ad V (Uv _ _ _) V (Ae V (AA (f:=.st .expr) Cr r6_0 (h.st.at_ hS hlt (hA.sub 0 16))) V (Af call144 V V (h.call G9 r6_0) ?_ Am))))))));rintro _ w1 ⟨rfl,O1,x1,h⟩;refine Ag ?_;refine Ac (Ab (Aa V V (Aa V V (Aa V V (AO V V (hix _ underlying67 Iq V) V (Ad V (Uw _ _ _) V (Ae V (AA (f:=.bool) Cm r6_1 (h.st.at_ hS hlt (hA.sub 16 1))) V (Af call138 V V (h.call FU r6_1) ?_ Am))))))));rintro _ w1 ⟨rfl,O1,x1,h⟩;refine Ag ?_;refine Ac (Ab (Aa V V (Aa V V (Aa V V (AO V V (hix _ underlying67 Iq V) V (Ad V (Ux _ _ _) V (Ae V (AA (f:=.bool) Cm r6_2 (h.st.at_ hS hlt (hA.sub 17 1))) V (Af call138 V V (h.call FU r6_2) ?_ Am))))))));rintro _ w1 ⟨rfl,O1,x1,h⟩;refine Ag ?_;refine Ab (Aa V V (Aa V V (Aa V V (AO V V (hix _ underlying67 Iq V) V (Ad V (Uy _ _ _) V (Ae V (AA (f:=.str) AK r6_3 (h.st.at_ hS hlt (hA.sub 18 1))) V (Af call136 V V (h.call CU r6_3) ?_ Am)))))));rintro _ w1 ⟨rfl,O1,x1,h⟩;refine A2 λa ha=>BK (Ak ?_);refine A6 ha (Ab (Aa V V (Al V V V V (Ah V V (A2 λa ha=>Ak ?_)))));exact⟨(i+1,O1,x1,w1),ha.weak ⟨rfl,rfl,congrArg some (Cl (DN hil hml)),trivial⟩,⟨rfl,hil,h⟩,DI hil (Cb i)⟩
 ·have hend:i=l.length:=Eb hi (Ec (B2 hf));obtain⟨ff,hs⟩:=(h.popped hend).fin;simp only[Bp]at hs;exact B9 V ha ⟨rfl,O1,ff,hs⟩
theorem Adr(ih:∀t',t'.wt<t.wt->Du 200 (.list (.st .instr)) t'):Du 199 (.list (.st .param)) t:=by
 intro w0 S p most long x O w cs hr hx hu;obtain⟨l,rfl⟩:=hr.is_list;obtain⟨g,cap,hv,hml,hget⟩:=Ej hr;rw[hv];have h:=XS.start (r:=[.list l]) hx (I8 hu);refine AE 50 func199 V V V ?_;refine Ac (Ab (Aa V V (Aa V V (AI V (AM underlying68) V (Af call137 V V h.len ?_ Am)))));rintro _ w1 ⟨rfl,O1,x1,h⟩;refine Ag (Ac (Ab (Ah V V (Ag ?_))));refine AF (BP (ι:=Nat×(Nat->Prop)×XW×World) (λi=>[(0,ptr p),(1,.slice g l.length cap),(4,.int .i64 (i.1:Int))])
  (λi w'=>w'=i.2.2.2/\i.1<=l.length/\XS w0 S p most long O w (l.drop i.1++[]) (Bp most long [.list l] x) i.2.1 w' i.2.2.1) (λi=>l.length-i.1) (0,O1,x1,w1) ⟨V,V,V,trivial⟩ ⟨rfl,AW _,h⟩ ?_)
 clear h;rintro⟨i,O1,x1,_⟩ w1 ⟨rfl,hi,h⟩;simp only at hi h⊢;refine Ac (Ac (Ab (Aa V V (Aa V V (AI V (AM underlying68) V (Al V V (CR (c:=decide (i<l.length)) (BM.2 DR.symm)) V (Ag (AN V (λht=>AG λa ha=>Ak ?_) (λhf=>BC λa ha=>AD (AD (B_ ?_)))))))))))
 ·have hil:i<l.length:=B7 ht;obtain⟨t,hti⟩:∃t,l[i]? =some t:=⟨_,Bm hil⟩;obtain⟨b,o,ds,hix,hS,hlt,hA,hr1⟩:=hget i t hti;have hw:=Dt (BA hti);replace h:=h.pop hti;refine A6 ha (Ac (AF ?_));obtain⟨fl7,rfl,hlen7,hF7⟩:=hr1.st_inv;obtain⟨a7_0,fl7,rfl,r7_0,hF7⟩:=hF7.cons_inv;obtain⟨a7_1,fl7,rfl,r7_1,hF7⟩:=hF7.cons_inv;obtain⟨a7_2,fl7,rfl,r7_2,hF7⟩:=hF7.cons_inv;obtain⟨a7_3,fl7,rfl,r7_3,hF7⟩:=hF7.cons_inv;obtain⟨a7_4,fl7,rfl,r7_4,hF7⟩:=hF7.cons_inv;obtain rfl:=hF7.nil_inv;simp only[BO,Nat.reduceAdd,Ty.size,SN.size]at r7_0 r7_1 r7_2 r7_3 r7_4;replace h:=h.flat rfl;refine Ac (Ab (Aa V V (Aa V V (Aa V V (AO V V (hix _ underlying68 Hu V) V (Ad V (Un _ _ _) V (Ae V (AA (f:=.str) AK r7_0 (h.st.at_ hS hlt (hA.sub 0 1))) V (Af call136 V V (h.call CU r7_0) ?_ Am))))))));rintro _ w1 ⟨rfl,O1,x1,h⟩;refine Ag ?_;refine Ac (Ab (Aa V V (Aa V V (Aa V V (AO V V (hix _ underlying68 Hu V) V (Ad V (Uo _ _ _) V (Ae V (AA (f:=.st .type) Ex r7_1 (h.st.at_ hS hlt (hA.sub 1 5))) V (Af call201 V V (h.call Of r7_1) ?_ Am))))))));rintro _ w1 ⟨rfl,O1,x1,h⟩;refine Ag ?_;refine Ac (Ab (Aa V V (Aa V V (Aa V V (AO V V (hix _ underlying68 Hu V) V (Ad V (Up _ _ _) V (Ae V (AA (f:=.bool) Cm r7_2 (h.st.at_ hS hlt (hA.sub 6 1))) V (Af call138 V V (h.call FU r7_2) ?_ Am))))))));rintro _ w1 ⟨rfl,O1,x1,h⟩;refine Ag ?_;refine Ac (Ab (Aa V V (Aa V V (Aa V V (AO V V (hix _ underlying68 Hu V) V (Ad V (Uq _ _ _) V (Ae V (AA (f:=.st .expr) Cr r7_3 (h.st.at_ hS hlt (hA.sub 7 16))) V (Af call144 V V (h.call G9 r7_3) ?_ Am))))))));rintro _ w1 ⟨rfl,O1,x1,h⟩;refine Ag ?_;refine Ab (Aa V V (Aa V V (Aa V V (AO V V (hix _ underlying68 Hu V) V (Ad V (Ur _ _ _) V (Ae V (AA (f:=.list (.st .instr)) Ew r7_4 (h.st.at_ hS hlt (hA.sub 23 1))) V (Af call200 V V (h.call (ih _ (JZ (by simp) hw (Ay _))) r7_4) ?_ Am)))))));rintro _ w1 ⟨rfl,O1,x1,h⟩;refine A2 λa ha=>BK (Ak ?_);refine A6 ha (Ab (Aa V V (Al V V V V (Ah V V (A2 λa ha=>Ak ?_)))));exact⟨(i+1,O1,x1,w1),ha.weak ⟨rfl,rfl,congrArg some (Cl (DN hil hml)),trivial⟩,⟨rfl,hil,h⟩,DI hil (Cb i)⟩
 ·have hend:i=l.length:=Eb hi (Ec (B2 hf));obtain⟨ff,hs⟩:=(h.popped hend).fin;simp only[Bp]at hs;exact B9 V ha ⟨rfl,O1,ff,hs⟩
end Go.Sx