import Derived.Test.YtdldhfocpandoaaGreatStE
import Derived.Great.BuildSlice
set_option maxHeartbeats 8000000
set_option maxRecDepth 8000
namespace Go.Sx
open Go.Proofs Go.Proofs.Tryz
def K_(P:Program)(e n bytes:Nat):Prop:=∃i z,P.info? e=some i/\i.zero=some z/\z.cells.size=n/\i.size=n/\i.bytes=bytes
variable{cs:List Value}{v:Value}{n:Nat}{w:World}{P:Program}
theorem W3{t e bytes:Nat}(hu:P.underlying t=some (.slice e))(hi:K_ P e n bytes)(hn:0<n)(hn2:n<=2 ^ 24)(hv:v.cells=cs.toArray)(hl:cs.length=n):
 (Instr.buildSlice t 1 #[(0,v)]).run P w= .ok (.slice (some ⟨w.heap.size,0,none⟩) 1 1) (w.alloc (.cells cs.toArray e)):=by
 obtain⟨i,z,h1,h2,h3,h4,h5⟩:=hi;refine run_buildSlice w t e 1 _ _ i z hu h1 h2 (by rw[h4];omega) (by rw[h4];omega) ?_;rw[h4];have:=Go.Great.fill_whole hn [v] ((Array.range (1*n)).map (z.cells[·%z.cells.size]!)) (by simp[hv,hl]) (by simp);simpa[hv]using this
def RepE(w:World)(S:Nat->Prop)(e:Ty):List T->List (List Value)->Prop
 |[],[]=>True
 |t::l,c::cs=>Rep w S t e c/\RepE w S e l cs
 |_,_=>False
theorem RepE.agree{w w':World}{S S':Nat->Prop}(hS:∀b,S b->b<w.heap.size->S' b/\b<w'.heap.size/\w'.heap[b]? =w.heap[b]?){e:Ty}:∀{l:List T}{cs:List (List Value)},RepE w S e l cs->RepE w' S' e l cs
 |[],[],_=>trivial
 |_t::_l,_c::_cs,h=>⟨Rep.agree hS _ _ _ h.1,RepE.agree hS h.2⟩
 |[],_::_,h=>h.elim
 |_::_,[],h=>h.elim
theorem RepE.snoc{w:World}{S:Nat->Prop}{e:Ty}{t:T}{c:List Value}(ht:Rep w S t e c):∀{l:List T}{cs:List (List Value)},RepE w S e l cs->RepE w S e (l++[t]) (cs++[c])
 |[],[],_=>⟨ht,trivial⟩
 |_x::_l,_y::_cs,h=>⟨h.1,RepE.snoc ht h.2⟩
 |[],_::_,h=>h.elim
 |_::_,[],h=>h.elim
variable{b:Nat}
theorem At.left{o:Nat}{x y:List Value}(h:At w b o (x++y)):At w b o x:=by
 intro j v hj;refine h j v ?_;rw[GD (C3.1 hj).1];exact hj
theorem At.right{o:Nat}{x y:List Value}(h:At w b o (x++y)):At w b (o+x.length) y:=by
 intro j v hj;have:=h (x.length+j) v (by rw[Me (by omega)];simpa using hj);rwa[<-Fe]at this
theorem X0{w:World}{S:Nat->Prop}{e:Ty}{b:Nat}:∀{l:List T}{cs:List (List Value)}{o:Nat},RepE w S e l cs->At w b o cs.flatten->RepL w S e l b o
 |[],[],o,_,_=>by simp only[RepL]
 |t::l,c::cs,o,h,ha=>by
  have h1:=(Rep.one _ _ _ h.1).1;simp only[E3]at ha;simp only[RepL];exact⟨⟨c,ha.left,h1,h.1⟩,X0 h.2 (h1▸ha.right)⟩
 |[],_::_,o,h,_=>h.elim
 |_::_,[],o,h,_=>h.elim
structure LSt(n0 p:Nat)(e:Ty)(tid:Nat)(s1:RS)(w0:World)(i:Nat)(v:Value)(si:RS)(w:World):Prop where
 rst:RSt n0 p si w
 fr:Fr (only p) w0 (λb=>b=p\/w0.heap.size<=b) w
 new:∀b,Aw v b->w0.heap.size<=b
 rep:∃(l:List T) (cs:List (List Value)) (S:Nat->Prop),l.length=i/\D7 l e s1=some si/\RepE w S e l cs/\(∀b,S b->w0.heap.size<=b/\¬Aw v b)/\w.ownsRow 0 tid e.size v i cs.flatten
 nest:si.nest=s1.nest
 base:n0<=w0.heap.size
variable{tid:Nat}
theorem As6{ts sz:Nat}(hu:prog.underlying ts=some (.slice tid))(hl:cs.length=sz)(h1:∀x∈cs,x.oneCell'=true)(hb:Blk w b cs tid):Src prog sz ts (.slice (some ⟨b,0,none⟩) 1 1) 1 cs w:=
 Src.ofSlice w hu _ _ _ cs (by omega) (λj v hj=>by rw[Addr.add_lit,hb.cell];simpa using hj) h1
variable{f:Ty}
theorem Adm{S:Nat->Prop}{t:T}(h:Rep w S t f cs):(E_ f cs).cells=cs.toArray:=by
 cases f with
 |st s=>rfl
 |_=>
  obtain⟨h1,h2⟩:=Rep.one _ _ _ h;obtain⟨v,rfl⟩:=O0.1 h1;simp only[E_];have:=h2 v (by simp);cases v<;>first|rfl|(simp[Value.oneCell']at this)
variable{x:Value}{w0:World}{si s1:RS}{e:Ty}{p n0:Nat}
theorem LSt.step{ts bytes:Nat}{w1:World}{i:Nat}{ty:TypeId}(hu:prog.underlying ts=some (.slice tid))(hi:K_ prog tid e.size bytes)(hby:bytes<=4096)(hsz:0<e.size)(hsz2:e.size<=2 ^ 24)
 (h:LSt n0 p e tid s1 w0 i v si w) (hr:IM n0 p e si w x w1) (hlen:i<2 ^ 25):
 ∃vb w2 v' w3 s',(Instr.buildSlice ts 1 #[(0,x)]).run prog w1= .ok vb w2/\(Builtin.append_ #[ts,ts] ty #[v,vb]).run prog w2= .ok v' w3/\LSt n0 p e tid s1 w0 (i+1) v' s' w3:=by
 obtain⟨t,s',c,hc,rfl,hrep,hst,f,hn⟩:=hr;obtain⟨l,cs,S,hl,hchk,hre,hS,hrow⟩:=h.rep;obtain⟨hc1,hc2⟩:=Rep.one _ _ _ hrep;obtain⟨ii,z,i1,i2,i3,i4,i5⟩:=hi;have hpl:=h.rst.lp;have hln:=h.rst.ln;have hbase:=h.base;have hne:∀b,Aw v b->b≠p:=λb hb e=>by have:=h.new b hb;omega
 have hw0:=h.fr.size;have f2:Fr (λ_=>False) w1 (λ_=>False) (w1.alloc (.cells c.toArray tid)):=Fr.alloc _ _ _;have hb2:Blk (w1.alloc (.cells c.toArray tid)) w1.heap.size c tid:=Cf;have hs2:(w1.alloc (.cells c.toArray tid)).heap.size=w1.heap.size+1:=by simp
 have hrun:=W3 (P:=prog) (w:=w1) (v:=E_ e c) hu ⟨ii,z,i1,i2,i3,i4,i5⟩ hsz hsz2 (Adm hrep) hc1;generalize w1.alloc (.cells c.toArray tid)=w2 at f2 hb2 hs2 hrun;have hrow2:w2.ownsRow 0 tid e.size v i cs.flatten:=Cn hrow (λb hb=>by
  have hl:=C8 hrow hb;rw[f2.blk b (BB hl f.size) (λh=>h),f.blk b hl (hne b hb)])
 have hmul:(i+1)*bytes<=2 ^ 26*4096:=JI (by omega) hby;obtain⟨v',w3,ha,hr3,g1,g2,_⟩:=OQ (P:=prog) (ty:=ty) hu i1 i2 i4 i5 (i3.trans rfl) hrow2 (As6 hu hc1 hc2 hb2) (by simp only[maxLen];omega) (by omega);have f3:Fr (Aw v) w2 (Aw v') w3:=Oq g1 g2;have h3:=f3.size;have h1:=f.size;have keep:∀b,b<w1.heap.size->¬Aw v b->w3.heap[b]? =w1.heap[b]? :=λb hb hn=>by
  rw[f3.blk b (by omega) hn,f2.blk b hb (λh=>h)]
 refine⟨_,_,v',w3,s',hrun,ha,⟨?_,?_,?_,⟨l++[t],cs++[c],λb=>(S b\/w.heap.size<=b)/\b<w1.heap.size,?_,?_,?_,?_,?_⟩,hn.trans h.nest,hbase⟩⟩
 ·exact(hst.keep f2 (λ_ h=>h.elim)).keep f3 (λb hb=>by have:=h.new b hb;omega)
 ·refine h.fr.trans ((f.drop (λb hb=>.inl hb)).trans ((f2.drop (λb hb=>hb.elim)).trans (f3.drop (λb hb=>.inr (h.new b hb)))))
 ·intro b hb;rcases f3.own b hb with h4|h4
  ·exact h.new b h4
  ·omega
 ·simp[hl]
 ·rw[YF,hchk];exact hc
 ·refine RepE.snoc (Rep.agree (λb hb hl'=>⟨⟨.inr hb,hl'⟩,by omega,keep b hl' (λho=>by have:=C8 hrow ho;omega)⟩) _ _ _ hrep) (RepE.agree (λb hb hl'=>⟨⟨.inl hb,by omega⟩,by omega,?_⟩) hre);rw[keep b (by omega) (hS b hb).2,f.blk b hl' (λe=>by have:=(hS b hb).1;omega)]
 ·rintro b ⟨hb,hl'⟩;refine⟨?_,λho=>?_⟩
  ·rcases hb with hb|hb
   ·exact(hS b hb).1
   ·omega
  ·rcases f3.own b ho with h4|h4
   ·rcases hb with hb|hb
    ·exact(hS b hb).2 h4
    ·have:=C8 hrow h4;omega
   ·omega
 ·rw[List.flatten_append];simpa using hr3
variable{s:RS}
theorem LSt.done{w00:World}(h:LSt n0 p e tid s1 w0 n v si w)(he:s.eat n=some s1)(hle:n<=s1.b.length)(f:Fr (only p) w00 (only p) w0)(_hp:p<w00.heap.size):
 IM n0 p (.list e) s w00 v w:=by
 obtain⟨l,cs,S,hl,hchk,hre,hS,hrow⟩:=h.rep;refine⟨.list l,si,[v],?_,rfl,?_,h.rst,?_,h.nest.trans (FB he).1⟩
 ·simp only[AU];rw[hl,he];simp only[Cw];rw[if_pos hle];exact hchk
 ·have hsz:=f.size;have hre':RepE w (λb=>w00.heap.size<=b) e l cs:=RepE.agree (λb hb hl'=>⟨by have:=(hS b hb).1;omega,hl',rfl⟩) hre;simp only[Rep];rcases hrow.2 with⟨rfl,h0⟩|⟨g,cap,cur,rfl,_,hg,h1,h2,h3,h4⟩
  ·left;exact⟨⟨_,_,rfl⟩,E2 (by omega)⟩
  ·right;refine⟨g,0,cap,by rw[hl],?_,(FG.1 hg).1,by omega,h2,X0 hre' ?_⟩
   ·have:=h.new g rfl;omega
   ·intro j x hj;rw[<-h4,Ea]at hj;split at hj
    ·simp[World.cell?,hg];simpa using hj
    ·cases hj
 ·have hfr:=h.fr;have hsz:=f.size;exact⟨hfr.os.trans f.os,hfr.tape.trans f.tape,hfr.output.trans f.output,AX hsz hfr.size,λb hb hn=>by
   rw[hfr.blk b (by omega) hn,f.blk b hb hn],λb hb=>.inl hb⟩
theorem LSt.start(h:RSt n0 p s1 w):LSt n0 p e tid s1 w 0 (.slice none 0 0) s1 w:=
 ⟨h,⟨rfl,rfl,rfl,Ay _,λ_ _ _=>rfl,λb hb=>hb⟩,λb hb=>(Iv b hb).elim,⟨[],[],λ_=>False,rfl,by simp only[D7],trivial,λ_ h=>h.elim,World.ownsRow_nil _ _ _ _⟩,rfl,h.ln⟩
variable{ch:List PanicEntry}{w':World}
theorem LSt.bad{w00:World}{i:Nat}(h:LSt n0 p e tid s1 w0 i v si w)(he:s.eat n=some s1)(hi:i<n)(f:Fr (only p) w00 (only p) w0)(_hp:p<w00.heap.size)
 (hf:IL n0 p e si w ch w'):IL n0 p (.list e) s w00 ch w':=by
 obtain⟨hch,hb,s',hs',f',hn⟩:=hf;obtain⟨l,cs,S,hl,hchk,_⟩:=h.rep;refine⟨hch,λt=>?_,s',hs',?_,?_⟩
 ·cases t<;>simp only[AU];rename_i l';cases hl':s.eat l'.length with
  |none=>rfl
  |some s2=>
   obtain⟨e1,rfl⟩:=FJ he hl';simp only[Cw];split
   ·exact YD l e _ si hchk hb l' (by omega)
   ·rfl
 ·have hfr:=h.fr;have hsz:=f.size;exact⟨f'.os.trans (hfr.os.trans f.os),f'.tape.trans (hfr.tape.trans f.tape),f'.output.trans (hfr.output.trans f.output),AX hsz (AX hfr.size f'.size),λb hb hn=>by
   have:=hfr.size;rw[f'.blk b (by omega) hn,hfr.blk b (by omega) hn,f.blk b hb hn],λb hb=>.inl hb⟩
 ·have:=(FB he).1;have:=h.nest;omega
def DU(n0 p:Nat)(f fe:FuncId)(e:Ty)(k:Nat):Prop:=
 ∀s w,RSt n0 p s w->s.nest=k->Calls prog f [ptr p,.func (.func fe) #[ptr p] #[]].toArray w (End (IM n0 p (.list e) s w) (IL n0 p (.list e) s w))
theorem Ae1(h:∀n s',s.eat n=some s'->¬n<=s'.b.length):E1 (.list e) s:=by
 intro t;cases t<;>simp only[AU];rename_i l;cases hl:s.eat l.length with
 |none=>rfl
 |some s2=>simp only[Cw];rw[if_neg (h _ _ hl)]
theorem Ps{e:Nat}(h:(P.info? e).map (λi=>(i.zero.map (λz=>z.cells.size),i.size,Nat.ble i.bytes 4096))=some (some n,n,true)):∃bytes,K_ P e n bytes/\bytes<=4096:=by
 cases hi:P.info? e with
 |none=>rw[hi]at h;cases h
 |some i=>
  rw[hi]at h;simp only[KI,Option.some.injEq,Prod.mk.injEq,BG]at h;obtain⟨⟨z,hz,hzs⟩,h2,h3⟩:=h;exact⟨_,⟨i,z,hi,hz,hzs,h2,rfl⟩,CK h3⟩
structure Xz where
 f:FuncId
 fe:FuncId
 e:Ty
 tid:TypeId
 ts:TypeId
 fn:Func
 hF:prog.funcs[f]? =some fn
 hE:(prog.info? tid).map (λi=>(i.zero.map (λz=>z.cells.size),i.size,Nat.ble i.bytes 4096))=some (some e.size,e.size,true)
 hU:prog.underlying ts=some (.slice tid)
 hC:GB prog fe
noncomputable def DQ:List Xz:=[
 ⟨57,58,.st .use,48,26,Tryz.f57,func57,by kernel_rfl,underlying26,call58⟩,
 ⟨59,60,.st .template,74,27,Tryz.f59,func59,by kernel_rfl,underlying27,call60⟩,
 ⟨61,62,.st .dfn,140,28,Tryz.f61,func61,by kernel_rfl,underlying28,call62⟩,
 ⟨63,64,.st .global,144,29,Tryz.f63,func63,by kernel_rfl,underlying29,call64⟩,
 ⟨65,66,.st .key,76,30,Tryz.f65,func65,by kernel_rfl,underlying30,call66⟩,
 ⟨67,68,.st .accum,151,31,Tryz.f67,func67,by kernel_rfl,underlying31,call68⟩,
 ⟨69,70,.st .mode,84,32,Tryz.f69,func69,by kernel_rfl,underlying32,call70⟩,
 ⟨71,72,.st .output,157,33,Tryz.f71,func71,by kernel_rfl,underlying33,call72⟩,
 ⟨73,74,.st .charMap,162,34,Tryz.f73,func73,by kernel_rfl,underlying34,call74⟩,
 ⟨119,120,.st .expr,66,64,Tryz.f119,func119,by kernel_rfl,underlying64,call120⟩,
 ⟨121,56,.str,9,44,Tryz.f121,func121,by kernel_rfl,underlying44,call56⟩,
 ⟨122,123,.st .param,216,68,Tryz.f122,func122,by kernel_rfl,underlying68,call123⟩,
 ⟨124,125,.st .instr,72,56,Tryz.f124,func124,by kernel_rfl,underlying56,call125⟩,
 ⟨127,128,.st .rule,182,149,Tryz.f127,func127,by kernel_rfl,underlying149,call128⟩,
 ⟨129,130,.st .swap,170,160,Tryz.f129,func129,by kernel_rfl,underlying160,call130⟩,
 ⟨190,191,.st .part,282,57,Tryz.f190,func190,by kernel_rfl,underlying57,call191⟩,
 ⟨192,193,.st .sort,286,67,Tryz.f192,func192,by kernel_rfl,underlying67,call193⟩,
 ⟨194,195,.st .source,290,69,Tryz.f194,func194,by kernel_rfl,underlying69,call195⟩,
 ⟨196,197,.st .ctch,294,70,Tryz.f196,func196,by kernel_rfl,underlying70,call197⟩,
 ⟨241,118,.int,3,262,Tryz.f241,func241,by kernel_rfl,underlying262,call118⟩]
variable{k:Nat}
theorem rl(d:Xz)(hd:d∈DQ)(h:Be n0 p d.fe d.e k):DU n0 p d.f d.fe d.e k:=by
 intro s w hs hk;have hF:=d.hF;have hU:=d.hU;have hC:=d.hC;obtain⟨bytes,hei,hby⟩:=Ps d.hE;have hp:p<w.heap.size:=BB hs.lp hs.ln;let e:=d.e;let tid:=d.tid;let fe:=d.fe;simp only[DQ,Ao,AB,or_false]at hd;rcases hd with rfl|rfl|rfl|rfl|rfl|rfl|rfl|rfl|rfl|rfl|rfl|rfl|rfl|rfl|rfl|rfl|rfl|rfl|rfl|rfl;all_goals
  refine AE 17 hF V V V ?_;refine Ac (Ab (Ah V V (Ag (Ac (Ab (Ah V V (Ag ?_)))))));refine CM (ι:=Value) (λv=>[(5,v)]) (λv w'=>IM n0 p (.list e) s w v w') ?_ ?_
  ·refine Ac (Ab (Aa V V (Af call54 V V (SQ hs) ?_ ?_)));rotate_left
   ·rintro ch w1 ⟨rfl,hb,s',h1,f1,hn⟩ a ha;exact Ap (Ap (A8 ha ⟨rfl,Ae1 hb,s',h1,f1,Hg hn.symm⟩))
   rintro _ w1 ⟨n,s1,he,hle,rfl,h1,f1,_⟩;have hb25:=h1.sb;have hnest:=(FB he).1;refine Aa V V (Ag ?_);refine AF (BP (ι:=Nat×Value) (λi=>[(0,ptr p),(1,.func (.func fe) #[ptr p] #[]),(5,i.2),(7,.int .i64 ((n:Nat):Int)),(8,.int .i64 ((i.1:Nat):Int))]) (λi w'=>i.1<=n/\∃si,LSt n0 p e tid s1 w1 i.1 i.2 si w') (λi=>n-i.1) (0,.slice none 0 0)
    ⟨V,V,V,V,V,trivial⟩ ⟨AW _,_,LSt.start h1⟩ ?_)
   rintro⟨i,v⟩ w2 ⟨hi,si,hl⟩;simp only at hi hl⊢;refine Ac (Ab (Al V V V V (Ag (Ac ?_))));refine AN V (λht=>AG λa ha=>Ak ?_) (λhf=>BC λa ha=>AD (AD (B_ (Ak ?_))))
   ·have hlt:i<n:=by simp at ht;omega
    refine A6 ha (Ac (AF (Ab (Aa V V (Aa V V (OJ V hC V V (h si w2 hl.rst (hl.nest.trans (hnest.trans hk))) ?_ ?_))))));rotate_left
    ·intro ch w3 hf a ha;exact Gd (Ap (Ap (Gd (Ap (A8 ha (hl.bad he hlt f1 hp hf))))))
    intro x w3 hg;obtain⟨vb,w4,v',w5,s',hr1,hr2,hl'⟩:=hl.step hU hei hby (by decide) (by decide) hg (by omega);refine BR V hr1 V (CX V V hr2 V (Ah V V (A2 λa ha=>BK (Ak ?_))));refine A6 ha (Ab (Al V V V V (Aa V V (A2 λa ha=>Ak ?_))));exact⟨(i+1,v'),ha.weak ⟨rfl,rfl,rfl,rfl,by show some _=some _;rw[Cl (by omega)],trivial⟩,⟨hlt,_,hl'⟩,by simp only;omega⟩
   ·have:i=n:=by simp at hf;omega
    subst this;exact⟨v,ha.weak ⟨V,trivial⟩,hl.done he hle f1 hp⟩
  ·intro v w2 hg;exact Ac (Ab (Aa V V (Ah V V (Ag (AJ λa ha=>Ch V ha V hg)))))
theorem c57(h:Be n0 p 58 (.st .use) k):DU n0 p 57 58 (.st .use) k:=rl (DQ[0]'(by decide)) (Ca _) h
theorem c59(h:Be n0 p 60 (.st .template) k):DU n0 p 59 60 (.st .template) k:=rl (DQ[1]'(by decide)) (Ca _) h
theorem c61(h:Be n0 p 62 (.st .dfn) k):DU n0 p 61 62 (.st .dfn) k:=rl (DQ[2]'(by decide)) (Ca _) h
theorem c63(h:Be n0 p 64 (.st .global) k):DU n0 p 63 64 (.st .global) k:=rl (DQ[3]'(by decide)) (Ca _) h
theorem c65(h:Be n0 p 66 (.st .key) k):DU n0 p 65 66 (.st .key) k:=rl (DQ[4]'(by decide)) (Ca _) h
theorem c67(h:Be n0 p 68 (.st .accum) k):DU n0 p 67 68 (.st .accum) k:=rl (DQ[5]'(by decide)) (Ca _) h
theorem c69(h:Be n0 p 70 (.st .mode) k):DU n0 p 69 70 (.st .mode) k:=rl (DQ[6]'(by decide)) (Ca _) h
theorem c71(h:Be n0 p 72 (.st .output) k):DU n0 p 71 72 (.st .output) k:=rl (DQ[7]'(by decide)) (Ca _) h
theorem c73(h:Be n0 p 74 (.st .charMap) k):DU n0 p 73 74 (.st .charMap) k:=rl (DQ[8]'(by decide)) (Ca _) h
theorem OX(h:Be n0 p 120 (.st .expr) k):DU n0 p 119 120 (.st .expr) k:=rl (DQ[9]'(by decide)) (Ca _) h
theorem SF(h:Be n0 p 56 (.str) k):DU n0 p 121 56 (.str) k:=rl (DQ[10]'(by decide)) (Ca _) h
theorem SG(h:Be n0 p 123 (.st .param) k):DU n0 p 122 123 (.st .param) k:=rl (DQ[11]'(by decide)) (Ca _) h
theorem KY(h:Be n0 p 125 (.st .instr) k):DU n0 p 124 125 (.st .instr) k:=rl (DQ[12]'(by decide)) (Ca _) h
theorem Afc(h:Be n0 p 128 (.st .rule) k):DU n0 p 127 128 (.st .rule) k:=rl (DQ[13]'(by decide)) (Ca _) h
theorem Afe(h:Be n0 p 130 (.st .swap) k):DU n0 p 129 130 (.st .swap) k:=rl (DQ[14]'(by decide)) (Ca _) h
theorem Yt(h:Be n0 p 191 (.st .part) k):DU n0 p 190 191 (.st .part) k:=rl (DQ[15]'(by decide)) (Ca _) h
theorem Yv(h:Be n0 p 193 (.st .sort) k):DU n0 p 192 193 (.st .sort) k:=rl (DQ[16]'(by decide)) (Ca _) h
theorem Af1(h:Be n0 p 195 (.st .source) k):DU n0 p 194 195 (.st .source) k:=rl (DQ[17]'(by decide)) (Ca _) h
theorem Af3(h:Be n0 p 197 (.st .ctch) k):DU n0 p 196 197 (.st .ctch) k:=rl (DQ[18]'(by decide)) (Ca _) h
theorem Agb(h:Be n0 p 118 (.int) k):DU n0 p 241 118 (.int) k:=rl (DQ[19]'(by decide)) (Ca _) h
def RepC(w:World)(S:Nat->Prop):List T->List Ty->List (List Value)->Prop
 |[],[],[]=>True
 |t::l,f::fs,c::cs=>Rep w S t f c/\RepC w S l fs cs
 |_,_,_=>False
theorem RepC.agree{w w':World}{S S':Nat->Prop}(hS:∀b,S b->b<w.heap.size->S' b/\b<w'.heap.size/\w'.heap[b]? =w.heap[b]?):∀{l:List T}{fs:List Ty}{cs:List (List Value)},RepC w S l fs cs->RepC w' S' l fs cs
 |[],[],[],_=>trivial
 |_t::_l,_f::_fs,_c::_cs,h=>⟨Rep.agree hS _ _ _ h.1,RepC.agree hS h.2⟩
 |[],[],_::_,h=>h.elim
 |[],_::_,_,h=>h.elim
 |_::_,[],_,h=>h.elim
 |_::_,_::_,[],h=>h.elim
theorem RepC.snoc{w:World}{S:Nat->Prop}{t:T}{f:Ty}{c:List Value}(ht:Rep w S t f c):∀{l:List T}{fs:List Ty}{cs:List (List Value)},RepC w S l fs cs->RepC w S (l++[t]) (fs++[f]) (cs++[c])
 |[],[],[],_=>⟨ht,trivial⟩
 |_x::_l,_g::_fs,_y::_cs,h=>⟨h.1,RepC.snoc ht h.2⟩
 |[],[],_::_,h=>h.elim
 |[],_::_,_,h=>h.elim
 |_::_,[],_,h=>h.elim
 |_::_,_::_,[],h=>h.elim
theorem OD{w:World}{S:Nat->Prop}:∀{l:List T}{fs:List Ty}{cs:List (List Value)} (pre:List Value),RepC w S l fs cs->RepF w S l fs pre.length (pre++cs.flatten)
 |[],[],[],pre,_=>by simp only[RepF]
 |t::l,f::fs,c::cs,pre,h=>by
  have h1:=(Rep.one _ _ _ h.1).1;simp only[RepF,E3];refine⟨?_,?_⟩
  ·have:((pre++(c++cs.flatten)).drop pre.length).take f.size=c:=by
    rw[List.drop_left,<-h1,HP]
   rw[this];exact h.1
  ·have:=OD (pre++c) h.2;rw[Bh,h1,Dg]at this;exact this
 |[],[],_::_,_,h=>h.elim
 |[],_::_,_,_,h=>h.elim
 |_::_,[],_,_,h=>h.elim
 |_::_,_::_,[],_,h=>h.elim
theorem RepC.size{w:World}{S:Nat->Prop}:∀{l:List T}{fs:List Ty}{cs:List (List Value)},RepC w S l fs cs->cs.map List.length=fs.map Ty.size
 |[],[],[],_=>rfl
 |t::l,f::fs,c::cs,h=>by
  have h1:=(Rep.one _ _ _ h.1).1;simp only[CA,h1,RepC.size h.2]
 |[],[],_::_,h=>h.elim
 |[],_::_,_,h=>h.elim
 |_::_,[],_,h=>h.elim
 |_::_,_::_,[],h=>h.elim
def FL:List Nat->List Value->List (List Value)
 |[],_=>[]
 |n::ns,cs=>cs.take n::FL ns (cs.drop n)
def Co:List Nat->Nat
 |[]=>0
 |n::ns=>n+Co ns
theorem Td:∀(ns:List Nat) (cs:List Value),cs.length=Co ns->(FL ns cs).flatten=cs
 |[],cs,h=>by simp[FL];exact E2 h
 |n::ns,cs,h=>by
  simp only[Co]at h;simp only[FL,E3,Td ns (cs.drop n) (by simp;omega),IG]
theorem YK:∀(ns:List Nat) (cs:List Value),cs.length=Co ns->(FL ns cs).map List.length=ns
 |[],cs,h=>rfl
 |n::ns,cs,h=>by
  simp only[Co]at h;simp only[FL,CA,YK ns (cs.drop n) (by simp;omega),HO];rw[O9 (by omega)]
theorem Acm:∀(cs:List (List Value)) (ns:List Nat) (j:Nat) (c:List Value),cs.map List.length=ns->ns[j]? =some c.length->Ci cs.flatten (Co (ns.take j)) c=(cs.set j c).flatten/\(cs.set j c).map List.length=ns/\Co (ns.take j)+c.length<=cs.flatten.length
 |[],_,j,c,h,hj=>by subst h;simp at hj
 |d::cs,ns,0,c,h,hj=>by
  subst h;simp only[CA,KC,Option.some.injEq]at hj;simp only[HQ,Co,Rz,E3,CA,hj,Ci,BO,Dh,Bh];refine⟨?_,trivial,by omega⟩;rw[<-hj,List.drop_left]
 |d::cs,ns,j+1,c,h,hj=>by
  subst h;simp only[CA,Mf]at hj;obtain⟨e1,e2,e3⟩:=Acm cs _ j c rfl hj;simp only[CA,JH,Co,Ry,E3,e2,Bh];refine⟨?_,trivial,by omega⟩;rw[<-e1];simp only[Ci];rw[List.take_append,List.drop_append];have h1:d.take (d.length+Co (List.take j (cs.map List.length)))=d:=R0 (by omega);have h2:d.drop (d.length+Co (List.take j (cs.map List.length))+c.length)=[]:=List.drop_eq_nil_of_le (by omega);rw[h1,h2];simp only[Dg,Dh,Xs];congr 3;congr 1;omega
structure MSt(n0 p c tid:Nat)(sz:List Nat)(fs:List Ty)(wz w0:World)(s0:RS)(cells chunks:List (List Value))(s:RS)(w:World):Prop where
 rst:RSt n0 p s w
 fr:Fr (only p) w0 (λb=>b=p\/w0.heap.size<=b) w
 c0:w0.heap.size<=c
 blk:Blk w c chunks.flatten tid
 len:chunks.map List.length=sz
 rep:∃l,RepC w (λb=>w0.heap.size<=b/\b≠c) l fs cells/\Bn l fs s0=some s
 base:n0<=w0.heap.size
 nest:s.nest=s0.nest
 also:∀b,b<wz.heap.size->b≠p->b≠c->w.heap[b]? =wz.heap[b]?
 alsoz:wz.heap.size<=w.heap.size
section
variable{n0 p c tid:Nat}{sz:List Nat}{fs:List Ty}{wz w0:World}{s0:RS}{cells chunks:List (List Value)}{s:RS}{w:World}
theorem MSt.ne(h:MSt n0 p c tid sz fs wz w0 s0 cells chunks s w):c≠p:=by
 have:=h.c0;have:=h.base;have:=h.rst.lp;omega
theorem MSt.call(h:MSt n0 p c tid sz fs wz w0 s0 cells chunks s w)(g:IM n0 p f s w v w'):
 ∃cs s',v=E_ f cs/\MSt n0 p c tid sz (fs++[f]) wz w0 s0 (cells++[cs]) chunks s' w'/\(∃(w:World) (S:Nat->Prop) (t:T),Rep w S t f cs)/\s'.nest=s.nest:=by
 obtain⟨t,s',cs,hc,rfl,hrep,hst,f',hn⟩:=g;obtain⟨l,hr,hchk⟩:=h.rep;have hne:=h.ne;have hcl:=h.blk.lt;have hbase:=h.base;have hlp:=h.rst.lp;have hw0:=h.fr.size;refine⟨cs,s',rfl,⟨hst,h.fr.trans (f'.drop (λb hb=>.inl hb)),h.c0,(f'.blk c hcl hne).trans h.blk,h.len,⟨l++[t],?_,(SY l fs t f s0 s hchk).trans hc⟩,hbase,hn.trans h.nest,λb h1 h2 h3=>(f'.blk b (BB h1 h.alsoz) h2).trans (h.also b h1 h2 h3),AX h.alsoz f'.size⟩,⟨_,_,_,hrep⟩,hn⟩;refine RepC.snoc (Rep.agree (λb hb hl=>⟨⟨by omega,by omega⟩,hl,rfl⟩) _ _ _ hrep) (RepC.agree (λb hb hl=>⟨hb,BB hl f'.size,f'.blk b hl (λe=>by have:=hb.1;omega)⟩) hr)
theorem MSt.store(h:MSt n0 p c tid sz fs wz w0 s0 cells chunks s w)(j:Nat){ft off:Nat}{agg:Bool}(hc:∃(w:World) (S:Nat->Prop) (t:T),Rep w S t f cs)(hty:AC prog ft agg f.size)(hj:sz[j]? =some f.size)(ho:off=Co (sz.take j)):
 ∃w',(storeVar ft ⟨c,off,none⟩ (E_ f cs)).run prog w= .ok () w'/\MSt n0 p c tid sz fs wz w0 s0 cells (chunks.set j cs) s w':=by
 obtain⟨wx,S,t,hx⟩:=hc;obtain⟨h1,h2⟩:=Rep.one _ _ _ hx;obtain⟨e1,e2,e3⟩:=Acm chunks sz j cs h.len (by rw[hj,h1]);have hst:=CG (P:=prog) hty (Adm hx) h1 h2 h.blk (o:=off) (by rw[ho];exact e3);rw[ho]at hst⊢;rw[e1]at hst;obtain⟨l,hr,hchk⟩:=h.rep;have hbase:=h.base;have hc0:=h.c0;refine⟨_,hst,⟨h.rst.keep (Fr.setRow (O:=only c) _ V) (λk hk=>by have:k=c:=hk;omega),h.fr.trans (Fr.setRow _ (.inr h.c0)),h.c0,h.blk.setRow _,e2,⟨l,RepC.agree (λb hb hl=>⟨hb,by simpa using hl,setRow_other _ _ _ _ hb.2⟩) hr,hchk⟩,h.base,h.nest,λb h1 h2 h3=>(setRow_other _ _ _ _ h3).trans (h.also b h1 h2 h3),by simpa using h.alsoz⟩⟩
theorem MSt.frame(h:MSt n0 p c tid sz fs wz w0 s0 cells chunks s w)(f:Fr (only p) w (only p) w'):Fr (only p) w0 (only p) w':=by
 have hfr:=h.fr;exact⟨f.os.trans hfr.os,f.tape.trans hfr.tape,f.output.trans hfr.output,AX hfr.size f.size,λb hb hn=>by
  have:=hfr.size;rw[f.blk b (by omega) hn,hfr.blk b hb hn],λb hb=>.inl hb⟩
variable{N:Nat}
theorem MSt.whole(h:MSt n0 p c tid sz fs wz w0 s0 cells chunks s w)(hty:AC prog tid true N)(new:List (List Value))(hnew:new.map List.length=sz)(hN:new.flatten.length=N)(h1:∀x∈new.flatten,x.oneCell'=true):
 (storeVar tid ⟨c,0,none⟩ (.agg new.flatten.toArray)).run prog w= .ok () (w.setRow c new.flatten.toArray)/\MSt n0 p c tid sz fs wz w0 s0 cells new s (w.setRow c new.flatten.toArray):=by
 have hl:new.flatten.length=chunks.flatten.length:=by
  have key:∀(cs:List (List Value)),cs.flatten.length=Co (cs.map List.length):=λcs=>by
   induction cs with
   |nil=>rfl
   |cons c cs ih=>simp only[E3,Bh,CA,Co,ih]
  rw[key,key,hnew,h.len]
 have hst:=CG (P:=prog) (v:=.agg new.flatten.toArray) hty rfl hN h1 h.blk (o:=0) (by omega);have hsp:Ci chunks.flatten 0 new.flatten=new.flatten:=by simp[Ci,hl]
 rw[hsp]at hst;obtain⟨l,hr,hchk⟩:=h.rep;have hbase:=h.base;have hc0:=h.c0;exact⟨hst,⟨h.rst.keep (Fr.setRow (O:=only c) _ V) (λk hk=>by have:k=c:=hk;omega),h.fr.trans (Fr.setRow _ (.inr h.c0)),h.c0,h.blk.setRow _,hnew,⟨l,RepC.agree (λb hb hl=>⟨hb,by simpa using hl,setRow_other _ _ _ _ hb.2⟩) hr,hchk⟩,h.base,h.nest,λb h1 h2 h3=>(setRow_other _ _ _ _ h3).trans (h.also b h1 h2 h3),by simpa using h.alsoz⟩⟩
theorem MSt.self(h:MSt n0 p c tid sz fs wz w0 s0 cells chunks s w)(hty:AC prog tid true N)(hN:chunks.flatten.length=N)(h1:∀x∈chunks.flatten,x.oneCell'=true):
 ∃w',(storeVar tid ⟨c,0,none⟩ (.agg chunks.flatten.toArray)).run prog w= .ok () w'/\MSt n0 p c tid sz fs wz w0 s0 cells chunks s w'/\(∀(S:Nat->Prop) (t:T) (f:Ty) (cs:List Value),Rep w S t f cs->Rep w' S t f cs):=by
 obtain⟨hst,M⟩:=h.whole hty chunks h.len hN h1;refine⟨_,hst,M,λS t f cs hr=>Rep.agree (λb hb hl=>⟨hb,by simpa using hl,?_⟩) _ _ _ hr⟩;by_cases hbc:b=c
 ·subst hbc;exact M.blk.trans h.blk.symm
 ·exact setRow_other _ _ _ _ hbc
variable{Z:List Value}
theorem MSt.start(h:RSt n0 p s w){wa:World}(hZ:Z.length=Co sz)(hb:Blk w c Z tid)(hc:wa.heap.size<=c)(hba:n0<=wa.heap.size)(hf:Fr (only p) wa (λb=>b=p\/wa.heap.size<=b) w):MSt n0 p c tid sz [] w wa s [] (FL sz Z) s w:=
 ⟨h,hf,hc,by rw[Td sz Z hZ];exact hb,YK sz Z hZ,⟨[],trivial,by simp only[Bn]⟩,hba,rfl,λ_ _ _ _=>rfl,Ay _⟩
theorem PP(sn:SN):Co (sn.fields.map Ty.size)=sn.size:=by cases sn<;>rfl
theorem NY:∀(cs:List (List Value)),cs.flatten.length=Co (cs.map List.length)
 |[]=>rfl
 |c::cs=>by simp only[E3,Bh,CA,Co,NY cs]
theorem RepC.one{w:World}{S:Nat->Prop}:∀{l:List T}{fs:List Ty}{cs:List (List Value)},RepC w S l fs cs->∀x∈cs.flatten,x.oneCell'=true
 |[],[],[],_,x,hx=>by simp at hx
 |t::l,f::fs,c::cs,h,x,hx=>by
  simp only[E3,B3]at hx;rcases hx with hx|hx
  ·exact(Rep.one _ _ _ h.1).2 x hx
  ·exact RepC.one h.2 x hx
 |[],[],_::_,h,_,_=>h.elim
 |[],_::_,_,h,_,_=>h.elim
 |_::_,[],_,h,_,_=>h.elim
 |_::_,_::_,[],h,_,_=>h.elim
variable{sn:SN}
theorem MSt.rep_st(h:MSt n0 p c tid sz sn.fields wz w0 s0 cells chunks s w)(hc:chunks=cells):chunks.flatten.length=sn.size/\(∀x∈chunks.flatten,x.oneCell'=true)/\∃l,Bn l sn.fields s0=some s/\Rep w (λb=>w0.heap.size<=b) (.agg sn l) (.st sn) chunks.flatten:=by
 subst hc;obtain⟨l,hr,hchk⟩:=h.rep;have hlen:chunks.flatten.length=sn.size:=by rw[NY,hr.size,PP]
 refine⟨hlen,hr.one,l,hchk,?_⟩;have hr':RepC w (λb=>w0.heap.size<=b) l sn.fields chunks:=RepC.agree (λb hb hl=>⟨hb.1,hl,rfl⟩) hr;simp only[Rep];exact⟨trivial,hlen,OD [] hr'⟩
theorem MSt.good_st(h:MSt n0 p c tid sz sn.fields wz w0 s0 cells chunks s w)(hd:sn.deep=false)(hc:chunks=cells):IM n0 p (.st sn) s0 w0 (.agg chunks.flatten.toArray) w:=by
 obtain⟨_,_,l,hchk,hrep⟩:=h.rep_st hc;exact⟨.agg sn l,s,chunks.flatten,Go.Sx.good_st hd hchk,rfl,hrep,h.rst,⟨h.fr.os,h.fr.tape,h.fr.output,h.fr.size,h.fr.blk,λb hb=>.inl hb⟩,h.nest⟩
theorem MSt.fail_st{gs:List Ty}(h:MSt n0 p c tid sz fs wz w0 s0 cells chunks s w)(hd:sn.deep=false)(hf:sn.fields=fs++f::gs)(hr:IL n0 p f s w ch w'):IL n0 p (.st sn) s0 w0 ch w':=by
 obtain⟨hch,hb,s',h1,f1,hn⟩:=hr;obtain⟨l,_,hchk⟩:=h.rep;exact⟨hch,Ae4 hd hf hchk hb,s',h1,h.frame f1,by have:=h.nest;omega⟩
end
variable{fn:Func}
theorem Abu{q:Tmp}{t:TypeId}(h:fn.results=#[.cell q t]){tmps:Array Value}(h1:tmps[q]? =some (ptr b))(hx:(loadVar t ⟨b,0,none⟩).run P w= .ok x w):
 (results fn tmps).run P w= .ok x w:=by
 simp[results,h,HL,h1,ptr,asAddr,hx]
theorem Em{R:Ending->World->Prop}{a:Act}{m:Env}{q:Tmp}{t:TypeId}(h:fn.results=#[.cell q t])(ha:Loc n [] m a)(hq:m.get q=some (ptr b))(hx:(loadVar t ⟨b,0,none⟩).run P w= .ok x w)
 (hR:R (.returned x) w):bodyPost P fn R .ret a w:=
 bodyPost_ret (Abu h (ha.slot q _ hq) hx) ha.defers hR
variable{Z:List Value}
theorem MSt.new{sz:List Nat}(h:RSt n0 p s w)(hZ:Z.length=Co sz):MSt n0 p w.heap.size tid sz [] (w.alloc (.cells Z.toArray tid)) w s [] (FL sz Z) s (w.alloc (.cells Z.toArray tid)):=
 MSt.start (h.keep (Fr.alloc (λ_=>False) w _) (λ_ h=>h.elim)) hZ Cf (Ay _) h.ln ⟨rfl,rfl,rfl,by simp,λb hb _=>heap_alloc_old w _ b hb,λb hb=>hb.elim .inl .inr⟩
def MF(bx:Nat):Deferred:={target:=.fn (.func 116) #[ptr bx],args:=#[]++#[]}
section
variable{n0 p c tid:Nat}{sz:List Nat}{fs:List Ty}{wz w0:World}{s0:RS}{cells chunks:List (List Value)}{s:RS}{w:World}
theorem MSt.deep{w1:World}(M:MSt n0 p c tid sz [] wz w0 s0 [] (FL sz Z) s0 w1)(hZ:Z.length=Co sz){w2:World}(f:Fr (only p) w1 (only p) w2)(h:RSt n0 p {s0 with nest:=s0.nest+1} w2):
 MSt n0 p c tid sz [] w2 w0 {s0 with nest:=s0.nest+1} [] (FL sz Z) {s0 with nest:=s0.nest+1} w2:=by
 have hb:=M.blk;rw[Td sz Z hZ]at hb;exact MSt.start h hZ ((f.blk c hb.lt M.ne).trans hb) M.c0 M.base (M.fr.trans (f.drop (λb hb=>.inl hb)))
theorem MSt.bx(h:MSt n0 p c tid sz fs wz w0 s0 cells chunks s w){bx:Nat}(hb:Blk wz bx [ptr p] 90)(h1:bx≠p)(h2:bx≠c):Blk w bx [ptr p] 90:=(h.also bx hb.lt h1 h2).trans hb
variable{sn:SN}
theorem MSt.fail_deep{sa:RS}{bx:Nat}{R:Value->World->Prop}(h:MSt n0 p c tid sz fs wz w0 {sa with nest:=sa.nest+1} cells chunks s w)(hbx:Blk wz bx [ptr p] 90)(h1:bx≠p)(h2:bx≠c)
 (hb:∀l,Bn l fs {sa with nest:=sa.nest+1}=some s->E1 f s->E1 (.st sn) sa) (hr:IL n0 p f s w ch w'):∀tmps,Leaves prog fn tmps (End R (IL n0 p (.st sn) sa w0)) [MF bx] (.panicking ch) w':=by
 intro tmps;obtain⟨rfl,hbad,s',hs',f',hn⟩:=hr;obtain⟨l,_,hchk⟩:=h.rep;have hnest:=h.nest;simp only at hnest;have hx:=h.bx hbx h1 h2;refine leaves_cons (f:=116) (args:=[ptr bx].toArray) (by simp) (by simp[invoke,call116]) ((YL hs' ((f'.blk bx hx.lt h1).trans hx) (by omega)).mono ?_);rintro e u' w'' ⟨rfl,rfl,f'',hs''⟩;exact⟨rfl,hb l hchk hbad,_,hs'',h.frame (f'.trans f''),by show sa.nest<=s'.nest-1;omega⟩
variable{N:Nat}
theorem MSt.good_deep{sa:RS}{bx:Nat}{Sx:List PanicEntry->World->Prop}{a:Act}{m:Env}{l:List T}(h:MSt n0 p c tid sz fs wz w0 {sa with nest:=sa.nest+1} cells chunks s w)(hbx:Blk wz bx [ptr p] 90)(h1:bx≠p)(h2:bx≠c)
 (hd:sn.deep=true) (hno:¬1000<sa.nest+1) (hty:AC prog tid true N) (hN:chunks.flatten.length=N) (hchk:Bn l sn.fields {sa with nest:=sa.nest+1}=some s) (hrep:Rep w (λb=>w0.heap.size<=b) (.agg sn l) (.st sn) chunks.flatten)
 (hres:fn.results=#[.cell 2 tid]) (ha:Loc n [MF bx] m a) (hq:m.get 2=some (ptr c)):bodyPostD prog fn (End (IM n0 p (.st sn) sa w0) Sx) .ret a w:=by
 show Leaves prog fn a.tmps _ a.defers .returning w;rw[ha.defers];have hnest:=h.nest;simp only at hnest;refine leaves_cons (f:=116) (args:=[ptr bx].toArray) (by simp) (by simp[invoke,call116]) ((YL h.rst (h.bx hbx h1 h2) (by omega)).mono ?_);rintro e u' w'' ⟨rfl,rfl,f'',hs''⟩;have hblk:Blk w'' c chunks.flatten tid:=(f''.blk c h.blk.lt h.ne).trans h.blk;refine⟨_,Abu hres (ha.slot 2 _ hq) (AS hty hN hblk.all),.agg sn l,{s with nest:=sa.nest},chunks.flatten,Go.Sx.good_deep hd hno hchk,rfl,?_,?_,h.frame f'',rfl⟩
 ·refine Rep.agree (λb hb hl=>⟨hb,BB hl f''.size,f''.blk b hl (λe=>by have:=h.base;have:=h.rst.lp;have:b=p:=e;omega)⟩) _ _ _ hrep
 ·have:s.nest-1=sa.nest:=by omega
  rw[this]at hs'';exact hs''
end
theorem Ys:Be n0 p 189 (.st .test) k:=by
 intro s w hs hnk;obtain⟨Z,hz,hzl⟩:∃Z:List Value,(∀w,(zeroValue 61).run prog w= .ok (.agg Z.toArray) w)/\Z.length=Co [1,1]:=⟨_,zeroValue61,rfl⟩;refine AE 10 func189 V V V ?_;refine Ac (Ab (Ct (hz _) V (Aj [(0,ptr p),(2,ptr w.heap.size)] ⟨V,V,trivial⟩ ?_)));have M:=MSt.new (tid:=61) (sz:=[1,1]) hs hzl;show W _ _ _ _ _ _ (w.alloc (.cells Z.toArray 61));generalize w.alloc (.cells Z.toArray 61)=w1 at M⊢;refine Ac (Ab (Aa V V (Af call118 V V (Dv _ _ M.rst (M.nest.trans hnk)) ?_ ?_)));rotate_left
 ·intro ch w' hf a ha;exact Ap (A8 ha (M.fail_st (sn:=.test) V V hf))
 rintro _ w' g;obtain⟨c0,s',rfl,M,H0,_⟩:=M.call g;refine Ah V V (Ag ?_);refine Ac (Ab (Aa V V (Aa V V (Af call56 V V (CN _ _ M.rst (M.nest.trans hnk)) ?_ ?_))));rotate_left
 ·intro ch w' hf a ha;exact Ap (A8 ha (M.fail_st (sn:=.test) V V hf))
 rintro _ w' g;obtain⟨c1,s',rfl,M,H1,_⟩:=M.call g;obtain⟨wx,Sx,tx,hx⟩:=H0;obtain⟨wy,Sy,ty,hy⟩:=H1;obtain⟨n,rfl,rfl,hn⟩:=hx.int_inv;obtain⟨x,rfl,rfl,hxs⟩:=hy.str_inv;have hb:∀w,(Instr.build 61 #[(0,.int .i64 n),(1,.string x)]).run prog w= .ok (.agg [Value.int .i64 n,.string x].toArray) w:=λw=>by
  simp[Instr.build,zeroValue61,runUnderlying61,Value.cells,Instr.fill,sizeOf3,sizeOf9]
 obtain⟨hst,M⟩:=M.whole (N:=2) Is [[.int .i64 n],[.string x]] rfl rfl (by simp[Value.oneCell']);refine EB V (hb _) V (An V V hst (Ag (AJ λa ha=>Em V ha V (AS Is V M.blk.all) (M.good_st (sn:=.test) V V))))
end Go.Sx