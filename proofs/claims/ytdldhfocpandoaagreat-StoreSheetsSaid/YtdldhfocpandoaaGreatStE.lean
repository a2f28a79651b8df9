import Derived.Test.YtdldhfocpandoaaGreatStD
import Derived.StillTail
import Derived.Lib.SlBytesConst
set_option maxHeartbeats 8000000
set_option maxRecDepth 8000
namespace Go.Sx
open Go.Proofs Go.Proofs.Tryz
def magicB:List UInt8:=[67,72,83,76]
def Dx(x:ByteArray):List UInt8:=num x.size++x.data.toList
def Bu:List ByteArray->List UInt8
 |[]=>[]
 |x::l=>Dx x++Bu l
def ws0:WS:=⟨[],[],0⟩
def FO(s:WS):List UInt8:=C0 (magicB++num s.tab.length++Bu s.tab++s.b)
def F2(most long:Nat)(t:T):Option (List UInt8):=(enc most long t ws0).bind λs=>if long<s.b.length then none else some (FO s)
def E9:List ByteArray->Nat
 |[]=>0
 |x::l=>x.size+E9 l
theorem Ade:∀(l:List ByteArray) (x:ByteArray),E9 (l++[x])=E9 l+x.size
 |[],x=>by simp[E9]
 |y::l,x=>by simp only[CL,E9,Ade l x];omega
theorem Tv:∀(l:List ByteArray) (x:ByteArray),Bu (l++[x])=Bu l++Dx x
 |[],x=>by simp[Bu]
 |y::l,x=>by simp only[CL,Bu,Tv l x,Dg]
theorem YY:∀(l r:List ByteArray),Bu (l++r)=Bu l++Bu r
 |[],r=>by simp[Bu]
 |y::l,r=>by simp only[CL,Bu,YY l r,Dg]
theorem PD(l:List ByteArray)(j:Nat):(Bu (l.take j)).length<=(Bu l).length:=by
 conv=>rhs;rw[<-IG j l,YY]
 simp
theorem Tw{l:List ByteArray}{j:Nat}{x:ByteArray}(h:l[j]? =some x):Bu (l.take (j+1))=Bu (l.take j)++Dx x:=by
 rw[KE,h,Option.toList_some,Tv]
theorem PC:∀(l:List ByteArray),(∀x∈l,x.size<=maxLen)->(Bu l).length<=10*l.length+E9 l
 |[],_=>by simp[Bu]
 |x::l,h=>by
  have h1:=PC l (λy hy=>h y (Ft _ hy));have h2:=h x (E4);have h3:=EY (n:=x.size) (by simp only[maxLen]at h2;omega);simp only[Bu,Dx,E9,Bh,Cg,FH];have:x.data.size=x.size:=rfl;omega
theorem Aux(s:WS)(x:ByteArray):E9 (s.str x).tab<=E9 s.tab+x.size:=by
 unfold WS.str;split
 ·exact RF _ _
 ·simp only[WS.num,Ade];omega
mutual
theorem P_{most long:Nat}:∀(t:T) (s s':WS),enc most long t s=some s'->E9 s'.tab<=E9 s.tab+t.wt
 | .int n,s,s',h=>by simp only[enc,Option.some.injEq]at h;subst h;exact RF _ _
 | .bool b,s,s',h=>by simp only[enc,Option.some.injEq]at h;subst h;exact RF _ _
 | .nil,s,s',h=>by simp only[enc,Option.some.injEq]at h;subst h;exact RF _ _
 | .str x,s,s',h=>by
  simp only[enc,Option.some.injEq]at h;subst h;have:=Aux s x;simp only[T.wt];omega
 | .ptr t,s,s',h=>by
  simp only[enc]at h;have:=P_ t _ _ h;simp only[T.wt,WS.num]at*;omega
 | .list l,s,s',h=>by
  simp only[enc]at h;have:=Pu l _ _ h;simp only[T.wt,WS.num]at*;omega
 | .agg sn l,s,s',h=>by
  simp only[enc]at h;simp only[T.wt];cases hd:sn.deep with
  |false=>
   rw[hd]at h;have:=Pu l _ _ h;omega
  |true=>
   rw[hd]at h;simp only at h;split at h
   ·cases h
   ·simp only[BG]at h;obtain⟨u,h1,rfl⟩:=h;have:=Pu l _ _ h1;simp only at*;omega
theorem Pu{most long:Nat}:∀(l:List T) (s s':WS),Bk most long l s=some s'->E9 s'.tab<=E9 s.tab+Bf l
 |[],s,s',h=>by simp only[Bk,Option.some.injEq]at h;subst h;omega
 |t::l,s,s',h=>by
  simp only[Bk,BV]at h;obtain⟨u,h1,h2⟩:=h;have a:=P_ t _ _ h1;have b:=Pu l _ _ h2;simp only[Bf];omega
end
variable{b:Nat}{w:World}{t:TypeId}{P:Program}
theorem ND{fn:Func}{p q:Tmp}{u:TypeId}(h:fn.results=#[.cell p t,.cell q u]){tmps:Array Value}{c:Nat}{x y:Value}
 (h1:tmps[p]? =some (ptr b)) (h2:tmps[q]? =some (ptr c)) (hx:(loadVar t ⟨b,0,none⟩).run P w= .ok x w) (hy:(loadVar u ⟨c,0,none⟩).run P w= .ok y w):
 (results fn tmps).run P w= .ok (.tuple #[x,y]) w:=by
 simp[results,h,HL,h1,h2,ptr,asAddr,hx,hy]
def Tf(b c:Nat):Deferred:={target:=.fn (.func 95) #[ptr b,ptr c],args:=#[]++#[]}
section
variable{R:Value->World->Prop}{Sx:List PanicEntry->World->Prop}{w:World}{b c:Nat}{x y:Value}{m:Env}{n:Nat}{a:Act}{fn:Func}
theorem Blk.cell0(h:Blk w b [x] t):w.cell? ⟨b,0,none⟩=some x:=by rw[h.cell];rfl
theorem Abn(hres:fn.results=#[.cell 6 22,.cell 7 4])(ha:Loc n [Tf b c] m a)(h6:m.get 6=some (ptr b))(h7:m.get 7=some (ptr c))(hb:Blk w b [x] 22)(hc:Blk w c [y] 4)(h:R (.tuple #[x,y]) w):
 bodyPostD prog fn (End R Sx) .ret a w:=by
 show Leaves prog fn a.tmps (End R Sx) a.defers .returning w;rw[ha.defers];refine leaves_cons (f:=95) (args:=[ptr b,ptr c].toArray) (by simp) (by simp[invoke,call95]) (d95_idle.mono ?_);rintro e u' w' ⟨rfl,rfl,rfl⟩;exact⟨_,ND hres (ha.slot 6 _ h6) (ha.slot 7 _ h7) (Ai C_ hb.cell0) (Ai D4 hc.cell0),h⟩
theorem Asl(hres:fn.results=#[.cell 6 22,.cell 7 4])(ha:Loc n [Tf b c] m a)(h6:m.get 6=some (ptr b))(h7:m.get 7=some (ptr c))(hb:Blk w b [x] 22)(hc:Blk w c [y] 4)(hbc:b≠c)
 (h:R (.tuple #[.slice none 0 0,.bool false]) (NQ w b c [.slice none 0 0] [.bool false])):
 bodyPostD prog fn (End R Sx) (.panic Eg) a w:=by
 show Leaves prog fn a.tmps (End R Sx) a.defers (.panicking Eg) w;rw[ha.defers];refine leaves_cons (f:=95) (args:=[ptr b,ptr c].toArray) (by simp) (by simp[invoke,call95]) ((Amq hb hc hbc).mono ?_);rintro e u' w' ⟨rfl,rfl,rfl⟩;have hb':Blk (NQ w b c [.slice none 0 0] [.bool false]) b [.slice none 0 0] 22:=(setRow_other _ c b _ hbc).trans (hb.setRow _);have hc':Blk (NQ w b c [.slice none 0 0] [.bool false]) c [.bool false] 4:=Blk.setRow ((setRow_other _ b c _ (λe=>hbc e.symm)).trans hc) _;exact⟨_,ND hres (ha.slot 6 _ h6) (ha.slot 7 _ h7) (Ai C_ hb'.cell0) (Ai D4 hc'.cell0),h⟩
end
theorem Ab6:(Instr.makeMap t none).run prog w= .ok (.map (some w.heap.size)) (w.alloc (.map #[] 0)):=by
 simp[Instr.makeMap]
theorem Atu{bm:Nat}{i j:Int}:(Instr.build 185 #[(2,.map (some bm)),(4,.int .i64 i),(5,.int .i64 j)]).run prog w= .ok (.agg [.slice none 0 0,.slice none 0 0,.map (some bm),.int .i64 0,.int .i64 i,.int .i64 j].toArray) w:=by
 simp[Instr.build,zeroValue185,runUnderlying185,Value.cells,Instr.fill,sizeOf131,sizeOf3]
def SL(P:Program)(ops:Array Oper)(w:World)(Q:Act->Prop)(l:List Oper)(n:Nat)(ds:List Deferred)(m:Env):Prop:=
 ∀a,Loc n ds m a->wpStill P ops w Q l a
section
variable{P:Program}{ops:Array Oper}{w:World}{Q:Act->Prop}{rest:List Oper}{n:Nat}{ds:List Deferred}{m:Env}{d:Nat}{ty:TypeId}{pos:String}{aft:Array Edge}
theorem Mq{Q:Exit->Act->World->Prop}{l:List Oper}(h:WL P ops Q l n ds m w):SL P ops w (λa'=>wpList P ops Q l a' w) [] n ds m:=λa ha=>h a ha
variable{v:Value}
theorem HX{o:Oper}(hg:o.guard=none)(hd:o.dst=some d)(hb:Nat.blt d n=true)
 (hr:∀a,Loc n ds m a->(execOp a.eval o).run P w= .ok (.value v) w)
 (h:SL P ops w Q rest n ds ((d,v)::m)):SL P ops w Q (o::rest) n ds m:=by
 intro a ha;unfold wpStill;rw[if_pos (by simp[Region.wanted,hg])];unfold Oper.still;rw[hr a ha,Oper.stillUpon_value,hd];exact h _ (ha.put d v hb)
variable{x:Operand}
theorem Fy(hx:ev m x=some v)(hb:Nat.blt d n=true)(h:SL P ops w Q rest n ds ((d,v)::m)):
 SL P ops w Q (⟨some d,.move x,ty,pos,aft,none⟩::rest) n ds m:=
 HX rfl rfl hb (λa ha=>by simp[execOp,ha.eval hx]) h
theorem HV{p:Addr}(hx:ev m x=some (.pointer (some p)))(hr:(loadVar t p).run P w= .ok v w)(hb:Nat.blt d n=true)
 (h:SL P ops w Q rest n ds ((d,v)::m)):SL P ops w Q (⟨some d,.load t x,ty,pos,aft,none⟩::rest) n ds m:=
 HX rfl rfl hb (λa ha=>by simp[execOp,ha.eval hx,Instr.loadAt,Instr.sureAddr,hr]) h
theorem HW{p:Addr}(hx:ev m x=some (.pointer (some p)))(hb:Nat.blt d n=true)
 (h:SL P ops w Q rest n ds ((d,.pointer (some p))::m)):SL P ops w Q (⟨some d,.nilCheck x,ty,pos,aft,none⟩::rest) n ds m:=
 HX rfl rfl hb (λa ha=>by simp[execOp,ha.eval hx]) h
variable{k:Nat}
theorem FY{s:Nat}{p q:Addr}(hx:ev m x=some (.pointer (some p)))(hr:∀w,(Instr.fieldAt s (.pointer (some p)) k).run P w= .ok (.pointer (some q)) w)(hb:Nat.blt d n=true)
 (h:SL P ops w Q rest n ds ((d,.pointer (some q))::m)):SL P ops w Q (⟨some d,.fieldAddr s x k,ty,pos,aft,none⟩::rest) n ds m:=
 HX rfl rfl hb (λa ha=>by simp[execOp,ha.eval hx,hr w]) h
theorem RT{id:Nat}{l:List Oper}{Q:Exit->Act->World->Prop}(k:Nat)(hm:P.follows .mixedOrders=true)(hB:Region.lexTailB .any l.toArray k=true)
 (h:SL P l.toArray (w.drewN 1) (λa'=>wpList P l.toArray Q (l.drop k) a' (w.drewN 1)) (l.take k) n ds m):W P (.region id l.toArray true) Q n ds m w:=
 λa ha=>wp_region_still_tail k hm hB (h a ha)
end
structure Out(w0 w:World)(b c:Nat)(v:Value)(xs:List UInt8):Prop where
 fr:Fr (λk=>k=b) w0 (λk=>k=b\/w0.heap.size<=k) w
 blk:Blk w b [v] 22
 row:w.ownsRow 0 5 1 v xs.length (xs.map bv)
 new:∀k,Aw v k->w0.heap.size<=k
 lt:b<w0.heap.size
variable{v:Value}{w0:World}
theorem Out.drewn{c:Nat}{xs:List UInt8}(h:Out w0 w b c v xs)(k:Nat):Out w0 (w.drewN k) b c v xs:=
 ⟨h.fr.trans (Fr.drewn k),h.blk,Cn h.row (λ_ _=>rfl),h.new,h.lt⟩
variable{v':Value}
theorem W9(h:Blk w b [v] 22)(hv:v'.cells=[v'].toArray/\v'.oneCell'=true):(storeVar 22 ⟨b,0,none⟩ v').run prog w= .ok () (w.setRow b [v'].toArray):=by
 have:=CG (P:=prog) (w:=w) (t:=22) (n:=1) (agg:=false) (b:=b) (o:=0) (v:=v') (vs:=[v']) C_ hv.1 rfl (by simpa using hv.2) h (by simp);rwa[NU]at this
theorem Acz(h:Blk w b [v] 4)(hv:v'.cells=[v'].toArray/\v'.oneCell'=true):(storeVar 4 ⟨b,0,none⟩ v').run prog w= .ok () (w.setRow b [v'].toArray):=by
 have:=CG (P:=prog) (w:=w) (t:=4) (n:=1) (agg:=false) (b:=b) (o:=0) (v:=v') (vs:=[v']) D4 hv.1 rfl (by simpa using hv.2) h (by simp);rwa[NU]at this
variable{n:Nat}
theorem J3{xs:List Value}{e:TypeId}(r:w.ownsRow 0 e 1 v n xs):v.cells=[v].toArray/\v.oneCell'=true:=by
 rcases r.2 with⟨rfl,_⟩|⟨g,cap,cur,rfl,_⟩<;>exact⟨rfl,rfl⟩
variable{U:Nat->Prop}{w':World}
theorem Out.put{c:Nat}{xs ys:List UInt8}(h:Out w0 w b c v xs)(f:Fr U w (Aw v') w')(hU:∀k,U k->Aw v k)(r:w'.ownsRow 0 5 1 v' ys.length (ys.map bv)):
 (storeVar 22 ⟨b,0,none⟩ v').run prog w'= .ok () (w'.setRow b [v'].toArray)/\Out w0 (w'.setRow b [v'].toArray) b c v' ys:=by
 have hbl:b<w.heap.size:=BB h.lt h.fr.size;have hnb:¬U b:=λhu=>by have:=h.new b (hU b hu);have:=h.lt;omega
 have hblk:Blk w' b [v] 22:=(f.blk b hbl hnb).trans h.blk;have hnew:∀k,Aw v' k->w0.heap.size<=k:=by
  intro k hk;rcases f.own k hk with h1|h1
  ·exact h.new k (hU k h1)
  ·exact AX h.fr.size h1
 refine⟨W9 hblk (J3 r),⟨?_,hblk.setRow _,Cn r (λk hk=>setRow_other _ _ _ _ (λe=>by have:=hnew k hk;have:=h.lt;omega)),hnew,h.lt⟩⟩;refine⟨?_,?_,?_,?_,?_,λk hk=>hk⟩
 ·exact f.os.trans h.fr.os
 ·exact f.tape.trans h.fr.tape
 ·exact f.output.trans h.fr.output
 ·simp only[E8];exact AX h.fr.size f.size
 ·intro k hk hn;rw[setRow_other _ _ _ _ hn,f.blk k (BB hk h.fr.size) (λhu=>by have:=h.new k (hU k hu);omega),h.fr.blk k hk hn]
variable{long most p:Nat}{S:Nat->Prop}
theorem WSt.both{s:WS}{O:Nat->Prop}(h:WSt w0 S p most long s O w):∃vb vt,w.cell? ⟨p,0,none⟩=some vb/\w.cell? ⟨p,1,none⟩=some vt/\
 w.ownsRow 0 5 1 vb s.b.length (s.b.map bv)/\w.ownsRow 0 9 1 vt s.tab.length (s.tab.map Value.string)/\O p/\(∀k,Aw vb k->O k)/\(∀k,Aw vt k->O k):=by
 obtain⟨vb,vt,bm,m⟩:=h.mem;exact⟨vb,vt,by rw[m.blk.cell];rfl,by rw[m.blk.cell];rfl,m.rb,m.rt,m.op,λk hk=>(m.ob k hk).1,λk hk=>(m.ot k hk).1⟩
theorem G2{xs:List Value}{e:TypeId}(r:w.ownsRow 0 e 1 v n xs):∃g cap,v= .slice g n cap/\
 ∀i x,xs[i]? =some x->∃b,g=some ⟨b,0,none⟩/\w.cell? ⟨b,i,none⟩=some x/\Aw v b:=by
 rcases r.2 with⟨rfl,h⟩|⟨g,cap,cur,rfl,_,hg,_,_,_,ht⟩
 ·have:xs=[]:=E2 (by have:=r.1;omega);subst this;subst h;exact⟨none,0,rfl,by simp⟩
 ·refine⟨_,cap,rfl,λi x hx=>⟨g,rfl,?_,rfl⟩⟩;rw[<-ht,Ea]at hx;split at hx
  ·simp[World.cell?,hg];simpa using hx
  ·cases hx
theorem WSt.start{bm:Nat}(hp:Blk w' p [.slice none 0 0,.slice none 0 0,.map (some bm),.int .i64 0,.int .i64 most,.int .i64 long] 185)(hbm:w'.heap[bm]? =some (.map #[] 0))
 (h1:w.heap.size<=bm) (h2:w.heap.size<=p) (hne:p≠bm) (hb:bm<w'.heap.size) (hf:∀b,b<w.heap.size->w'.heap[b]? =w.heap[b]?) (hs:w.heap.size<=w'.heap.size):WSt w S p most long ws0 (λb=>b=bm\/b=p) w':=by
 refine⟨λb _ hl=>⟨λh=>by rcases h with h|h<;>omega,hf b hl⟩,?_,hs,⟨.slice none 0 0,.slice none 0 0,bm,hp,World.ownsRow_nil _ _ _ _,World.ownsRow_nil _ _ _ _,⟨#[],0,hbm,rfl,rfl⟩,.inr rfl,.inl rfl,?_,?_,hne⟩,by simp[ws0],by simp[ws0]⟩
 ·rintro b (rfl|rfl)
  ·exact hb
  ·exact hp.lt
 ·intro k hk;simp[Aw,Value.ownBlock]at hk
 ·intro k hk;simp[Aw,Value.ownBlock]at hk
variable{cs:List Value}
theorem Blk.all(h:Blk w b cs t):At w b 0 cs:=by
 have:=h.at_ 0 cs.length;simpa using this
theorem Aaq:(Instr.buildSlice 22 4 #[(0,.int .u8 67),(1,.int .u8 72),(2,.int .u8 83),(3,.int .u8 76)]).run prog w= .ok (.slice (some ⟨w.heap.size,0,none⟩) 4 4) (w.alloc (.cells (magicB.map bv).toArray 5)):=
 W4 underlying22 G8 zeroValue5 rfl rfl rfl rfl rfl
theorem As5:Row (w.alloc (.cells (magicB.map bv).toArray 5 ((magicB.map bv).toArray.size,(magicB.map bv).toArray.size+1))) (.slice (some ⟨w.heap.size,0,none⟩) 4 4) magicB:=by
 refine .inr ⟨w.heap.size,rfl,by simp,?_⟩;intro j v hj;have:=heap_alloc_new w (.cells (magicB.map bv).toArray 5 ((magicB.map bv).toArray.size,(magicB.map bv).toArray.size+1));simp only[World.cell?,this,BO];simpa using hj
def Adz(w:World)(r:Option (List UInt8))(v:Value)(w':World):Prop:=
 ∃vb,v= .tuple #[vb,.bool r.isSome]/\Fr (λ_=>False) w (Aw vb) w'/\
  match r with
  |some bs=>w'.ownsRow 0 5 1 vb bs.length (bs.map bv)
  |none=>vb= .slice none 0 0
theorem Ll{w3:World}{O O':Nat->Prop}(f0:Fr (λ_=>False) w (λ_=>False) w3)(f1:Fr O w3 O' w')(hO:∀b,O b->w.heap.size<=b)(hv:∀b,Aw v b->w.heap.size<=b):Fr (λ_=>False) w (Aw v) w':=by
 refine⟨f1.os.trans f0.os,f1.tape.trans f0.tape,f1.output.trans f0.output,AX f0.size f1.size,λb hb _=>?_,λb hb=>.inr (hv b hb)⟩;rw[f1.blk b (BB hb f0.size) (λh=>by have:=hO b h;omega),f0.blk b hb (λh=>h)]
theorem Iv(b:Nat):¬Aw (.slice none 0 0) b:=by simp[Aw,Value.ownBlock]
theorem c44{t:T}(hr:Rep w S t (.st .sheet) cs)(hu:11*t.wt<=2 ^ 40):
 Calls prog 44 [.agg cs.toArray,.int .i64 most,.int .i64 long].toArray w (End (Adz w (F2 most long t)) (λ_ _=>False)):=by
 refine IU 60 func44 V V V ?_;refine Ac (Ab (Cy V V ?_));have a1:Own (λ_=>False) (w.alloc (.cells cs.toArray 36)) w.heap.size cs 36:=⟨Cf,λh=>h⟩;have f1:Fr (λ_=>False) w (λ_=>False) (w.alloc (.cells cs.toArray 36)):=Fr.alloc _ _ _;have s1:(w.alloc (.cells cs.toArray 36)).heap.size=w.heap.size+1:=by simp
 show WL _ _ _ _ _ _ _ (w.alloc (.cells cs.toArray 36));generalize w.alloc (.cells cs.toArray 36)=w1 at a1 f1 s1⊢;refine Ct (zeroValue22 _) V ?_;have a2:Own (λ_=>False) (w1.alloc (.cells [.slice none 0 0].toArray 22)) w1.heap.size [.slice none 0 0] 22:=⟨Cf,λh=>h⟩;have f2:Fr (λ_=>False) w1 (λ_=>False) (w1.alloc (.cells [.slice none 0 0].toArray 22)):=Fr.alloc _ _ _;have s2:(w1.alloc (.cells [.slice none 0 0].toArray 22)).heap.size=w1.heap.size+1:=by simp
 show WL _ _ _ _ _ _ _ (w1.alloc (.cells [.slice none 0 0].toArray 22));generalize w1.alloc (.cells [.slice none 0 0].toArray 22)=w2 at a2 f2 s2⊢;refine Ct (zeroValue4 _) V ?_;have a3:Own (λ_=>False) (w2.alloc (.cells [.bool false].toArray 4)) w2.heap.size [.bool false] 4:=⟨Cf,λh=>h⟩;have f3:Fr (λ_=>False) w2 (λ_=>False) (w2.alloc (.cells [.bool false].toArray 4)):=Fr.alloc _ _ _;have s3:(w2.alloc (.cells [.bool false].toArray 4)).heap.size=w2.heap.size+1:=by simp
 show WL _ _ _ _ _ _ _ (w2.alloc (.cells [.bool false].toArray 4));generalize w2.alloc (.cells [.bool false].toArray 4)=w3 at a3 f3 s3⊢;have b1:=(f2.trans f3).keep a1;have b2:=f3.keep a2;have f03:=(f1.trans f2).trans f3;generalize hb6:w1.heap.size=b6 at*;generalize hb7:w2.heap.size=b7 at*;refine Aj [(1,.int .i64 most),(2,.int .i64 long),(3,ptr w.heap.size),(6,ptr b6),(7,ptr b7)] ⟨V,V,V,V,V,trivial⟩ ?_;refine Ac (Ab (XB Ab6 V ?_));have f4:Fr (λ_=>False) w3 (λ_=>False) (w3.alloc (.map #[] 0)):=Fr.alloc _ _ _;have s4:(w3.alloc (.map #[] 0)).heap.size=w3.heap.size+1:=by simp
 have a4:(w3.alloc (.map #[] 0)).heap[w3.heap.size]? =some (.map #[] 0):=heap_alloc_new _ _;generalize w3.alloc (.map #[] 0)=w4 at f4 s4 a4⊢;refine Aa V V (Aa V V (EB V Atu V (Cy V V ?_)));have f5:Fr (λ_=>False) w4 (λ_=>False) (w4.alloc (.cells [.slice none 0 0,.slice none 0 0,.map (some w3.heap.size),.int .i64 0,.int .i64 most,.int .i64 long].toArray 185)):=Fr.alloc _ _ _;have s5:(w4.alloc (.cells [.slice none 0 0,.slice none 0 0,.map (some w3.heap.size),.int .i64 0,.int .i64 most,.int .i64 long].toArray 185)).heap.size=w4.heap.size+1:=by simp
 have a5:Blk (w4.alloc (.cells [.slice none 0 0,.slice none 0 0,.map (some w3.heap.size),.int .i64 0,.int .i64 most,.int .i64 long].toArray 185)) w4.heap.size [.slice none 0 0,.slice none 0 0,.map (some w3.heap.size),.int .i64 0,.int .i64 most,.int .i64 long] 185:=Cf;show WL _ _ _ _ _ _ _ (w4.alloc (.cells [.slice none 0 0,.slice none 0 0,.map (some w3.heap.size),.int .i64 0,.int .i64 most,.int .i64 long].toArray 185));generalize w4.alloc (.cells [.slice none 0 0,.slice none 0 0,.map (some w3.heap.size),.int .i64 0,.int .i64 most,.int .i64 long].toArray 185)=w5 at f5 s5 a5⊢;have f05:=f03.trans (f4.trans f5);have hst:WSt w S w4.heap.size most long ws0 (λb=>b=w3.heap.size\/b=w4.heap.size) w5:=
  WSt.start a5 ((f5.blk _ (by omega) (λh=>h)).trans a4) (by omega) (by omega) (by omega) (by omega) (λb hb=>f05.blk b hb (λh=>h)) f05.size
 have c1:Own (λb=>b=w3.heap.size\/b=w4.heap.size) w5 w.heap.size cs 36:=⟨((f4.trans f5).keep b1).blk,λh=>by rcases h with h|h<;>omega⟩;have c2:Own (λb=>b=w3.heap.size\/b=w4.heap.size) w5 b6 [.slice none 0 0] 22:=⟨((f4.trans f5).keep b2).blk,λh=>by rcases h with h|h<;>omega⟩;have c3:Own (λb=>b=w3.heap.size\/b=w4.heap.size) w5 b7 [.bool false] 4:=⟨((f4.trans f5).keep a3).blk,λh=>by rcases h with h|h<;>omega⟩;have hOn':∀b,(b=w3.heap.size\/b=w4.heap.size)->w.heap.size<=b:=λb h=>by rcases h with h|h<;>omega
 have h67:b6≠b7:=by omega
 have h6n:w.heap.size<=b6:=by omega
 have h7n:w.heap.size<=b7:=by omega
 generalize w4.heap.size=p at*;generalize hO:(λb=>b=w3.heap.size\/b=p)=O at*;have hOn:∀b,O b->w.heap.size<=b:=λb hb=>by rw[<-hO]at hb;exact hOn' b hb
 clear f1 f2 f3 f4 f5 s1 s2 s3 s4 s5 a1 a2 a3 a4 a5 b1 b2 f03;refine Ah V V (Aj [(2,.int .i64 long),(3,ptr w.heap.size),(6,ptr b6),(7,ptr b7),(8,ptr p)] ⟨V,V,V,V,V,trivial⟩ ?_);refine Ac (Ab (Ba V V V (IP V (Ag ?_))));show W _ _ _ _ [Tf b6 b7] _ _;have hlen:cs.length=10:=hr.st_inv.elim λl h=>h.2.1;refine Ac (Ab (Aa V V (Ae V (AS Ev hlen c1.blk.all) V (Af call96 V V (Avl t cs hr ws0 O w5 hst (by show 0+11*t.wt<=_;omega)) ?_ ?_))));rotate_left
 ·rintro ch w6 ⟨rfl,he,s',O',f6,_⟩ a ha;have d2:=f6.keep c2;have d3:=f6.keep c3;refine Ap (Asl V ha V V d2.blk d3.blk h67 ⟨.slice none 0 0,?_,?_,?_⟩)
  ·simp[F2,he]
  ·refine Ll (O:=λb=>w.heap.size<=b) (O':=λb=>w.heap.size<=b) f05 ?_ (λ_ h=>h) (λb h=>(Iv b h).elim);have g:Fr (λb=>w.heap.size<=b) w5 (λb=>w.heap.size<=b) w6:=⟨f6.os,f6.tape,f6.output,f6.size,λb hb hn=>f6.blk b hb (λho=>hn (hOn b ho)),λb hb=>.inl hb⟩;exact g.trans (Acl h6n h7n)
  ·simp[F2,he]
 rintro _ w6 ⟨rfl,s',O',he,f6,hw6⟩;have d2:=f6.keep c2;have d3:=f6.keep c3;have hO'n:∀b,O' b->w.heap.size<=b:=λb hb=>(f6.own b hb).elim (hOn b) (λh=>AX f05.size h);have g6:Fr (λb=>w.heap.size<=b) w5 (λb=>w.heap.size<=b) w6:=⟨f6.os,f6.tape,f6.output,f6.size,λb hb hn=>f6.blk b hb (λho=>hn (hOn b ho)),λb hb=>.inl hb⟩;obtain⟨hus,_⟩:=PB t ws0 s' he (by show 0+11*t.wt<=_;omega);have htz:=P_ t ws0 s' he;have htz':E9 s'.tab<=t.wt:=by simpa[ws0,E9]using htz
 have hub:s'.b.length<=2 ^ 40/\s'.tab.length<=2 ^ 40:=by
  have:ws0.use=0:=rfl;simp only[WS.use]at hus this;omega
 obtain⟨vb,vt,e0,e1,rb,rt,hOp,hOb,hOt⟩:=hw6.both;obtain⟨gb,capb,rfl,_⟩:=G2 rb;obtain⟨gt,capt,rfl,hgt⟩:=G2 rt;refine Aj [(2,.int .i64 long),(6,ptr b6),(7,ptr b7),(8,ptr p)] ⟨V,V,V,V,trivial⟩ ?_;refine Ac (Ac (Ab (Aa V V (AR V V (Ad V (Fj _ _ _) V (Ae V (Ai C_ e0) V (AI V (AM underlying22) V (Aa V V (Al V V (D2 (c:=decide (long<s'.b.length)) (BM.2 (by omega))) V (Ag ?_))))))))));refine AN V (λht=>?_) (λhf=>AG λa ha=>Ak ?_)
 ·have hlt:long<s'.b.length:=B7 ht;have hn:F2 most long t=none:=by simp[F2,he,hlt]
  have hc7:Blk (w6.setRow b6 [Value.slice none 0 0].toArray) b7 [.bool false] 4:=(setRow_other _ _ _ _ (λe=>h67 e.symm)).trans d3.blk;refine Ac (Ab (An V V (W9 d2.blk ⟨rfl,rfl⟩) (An V V (Acz hc7 ⟨rfl,rfl⟩) (Ag (AJ λa ha=>C9 (Abn V ha V V (x:=.slice none 0 0) (y:=.bool false) ?_ ?_ ?_))))))
  ·exact(setRow_other _ _ _ _ h67).trans (d2.blk.setRow _)
  ·exact hc7.setRow _
  ·rw[hn];exact⟨_,rfl,Ll f05 (g6.trans (Acl h6n h7n)) (λ_ h=>h) (λb h=>(Iv b h).elim),rfl⟩
 ·have hlt:¬long<s'.b.length:=B2 hf;have hs:F2 most long t=some (FO s'):=by simp[F2,he,hlt]
  rw[hs];refine A6 ha ?_;refine Ac (Ab (BR V Aaq V (BH V (Go.Lib.run_convert_bytes_const w6 22 5 _ 4 4 underlying22 underlying5) V ?_)));have rm:=As5 (w:=w6);have fm:Fr (λ_=>False) w6 (λ_=>False) (w6.alloc (.cells (magicB.map bv).toArray 5 ((magicB.map bv).toArray.size,(magicB.map bv).toArray.size+1))):=Fr.alloc _ _ _;have sm:(w6.alloc (.cells (magicB.map bv).toArray 5 ((magicB.map bv).toArray.size,(magicB.map bv).toArray.size+1))).heap.size=w6.heap.size+1:=by simp
  generalize w6.alloc (.cells (magicB.map bv).toArray 5 ((magicB.map bv).toArray.size,(magicB.map bv).toArray.size+1))=w7 at rm fm sm⊢;have hl6:∀k,O' k->k<w6.heap.size:=hw6.lt;have hp6:p<w6.heap.size:=hl6 p hOp;have rd:∀{w':World}{k:Nat},Fr (λk=>k=b6) w6 (λk=>k=b6\/w6.heap.size<=k) w'->O' k->w'.heap[k]? =w6.heap[k]? :=λf hk=>f.blk _ (hl6 _ hk) (λe=>d2.out (e▸hk));have e1':w7.cell? ⟨p,1,none⟩=some (.slice gt s'.tab.length capt):=by rw[World.cell?_of_block (w:=w6) (fm.blk p hp6 (λh=>h))];exact e1
  refine Aa V V (AR V V (Ad V (MP _ _ _) V (Ae V (Ai HI e1') V (AI V (AM underlying44) V (BH V (De runUnderlying3 runUnderlying164) V ?_)))));rw[DH (by omega) (by omega)];refine Af call97 V V (Y7 rm (by omega) (by have:=EY (n:=s'.tab.length) (by omega);have:magicB.length=4:=rfl;omega)) ?_ Am;rintro v8 w8 ⟨r8,f8⟩;have hn8:∀k,Aw v8 k->w6.heap.size<=k:=by
   intro k hk;rcases f8.own k hk with h1|h1
   ·have:w6.heap.size=k:=by simpa[Aw,Value.ownBlock]using h1
    omega
   ·omega
  have hb6:b6<w6.heap.size:=d2.blk.lt;have hno6:¬Aw (.slice (some ⟨w6.heap.size,0,none⟩) 4 4) b6:=λh=>by
   have:w6.heap.size=b6:=by simpa[Aw,Value.ownBlock]using h
   omega
  have hblk8:Blk w8 b6 [.slice none 0 0] 22:=(f8.blk b6 (by omega) hno6).trans ((fm.blk b6 hb6 (λh=>h)).trans d2.blk);have out0:Out w6 (w8.setRow b6 [v8].toArray) b6 b7 v8 (magicB++num s'.tab.length):=by
   refine⟨⟨f8.os.trans fm.os,f8.tape.trans fm.tape,f8.output.trans fm.output,by simp only[E8];have:=f8.size;omega,?_,λk hk=>hk⟩,hblk8.setRow _,Cn r8 (λk hk=>setRow_other _ _ _ _ (λe=>by have:=hn8 k hk;omega)),hn8,hb6⟩;intro k hk hn;rw[setRow_other _ _ _ _ hn,f8.blk k (by omega) (λh=>by
    have:w6.heap.size=k:=by simpa[Aw,Value.ownBlock]using h
    omega),fm.blk k hk (λh=>h)]
  refine An V V (W9 hblk8 (J3 r8)) (Aj [(6,ptr b6),(7,ptr b7),(8,ptr p)] ⟨V,V,V,trivial⟩ ?_);generalize w8.setRow b6 [v8].toArray=w9 at out0⊢;clear rm fm sm e1' r8 f8 hn8 hblk8 hno6;refine CM (ι:=Value) (λ_=>[(6,ptr b6),(7,ptr b7),(8,ptr p)]) (λv w'=>Out w6 w' b6 b7 v (magicB++num s'.tab.length++Bu s'.tab)) ?_ ?_
  ·have e1':w9.cell? ⟨p,1,none⟩=some (.slice gt s'.tab.length capt):=by rw[World.cell?_of_block (w:=w6) (rd out0.fr hOp)];exact e1
   refine Ac (Ab (Aa V V (AR V V (Ad V (MP _ _ _) V (Ae V (Ai HI e1') V (AI V (AM underlying44) V (Aa V V (Ag ?_))))))));have hel:=PC s'.tab hw6.tabs;refine AF (BP (ι:=Nat×Value) (λi=>[(6,ptr b6),(7,ptr b7),(8,ptr p),(39,.slice gt s'.tab.length capt),(40,.int .i64 s'.tab.length),(41,.int .i64 i.1)])
    (λi w'=>i.1<=s'.tab.length/\Out w6 w' b6 b7 i.2 (magicB++num s'.tab.length++Bu (s'.tab.take i.1))) (λi=>s'.tab.length-i.1) (0,v8)
    ⟨V,V,V,V,V,V,trivial⟩ ⟨AW _,by simpa[Bu]using out0⟩ ?_)
   rintro⟨j,v⟩ w' ⟨hj,out⟩;simp only at hj out⊢;refine Ac (Ab (Al V V V V (Ag (Ac ?_))));refine AN V (λht=>AG λa ha=>Ak ?_) (λhf=>BC λa ha=>AD (AD (B_ (Ak ?_))))
   ·have hlt:j<s'.tab.length:=by simp at ht;omega
    obtain⟨x,hx⟩:∃x,s'.tab[j]? =some x:=⟨_,Bm hlt⟩;have hxs:x.size<=maxLen:=hw6.tabs x (BA hx);obtain⟨bt,rfl,hcell,hown⟩:=hgt j (.string x) (by simp[hx]);have hcell':w'.cell? ⟨bt,0+j*1,none⟩=some (.string x):=by
     rw[World.cell?_of_block (w:=w6) (rd out.fr (hOt bt hown)),BO,JJ];exact hcell
    have hi:∀w,(Instr.indexAt 44 (.slice (some ⟨bt,0,none⟩) s'.tab.length capt) (.int .i64 j)).run prog w= .ok (.pointer (some ⟨bt,0+j*1,none⟩)) w:=λw=>by
     have:=Dy (P:=prog) (w:=w) (b:=bt) (o:=0) (cap:=capt) (i:=(j:Int)) underlying44 FT (by omega) (by omega:(j:Int)<(s'.tab.length:Nat));rwa[Do]at this
    have hnx:(num x.size).length<=10:=EY (by simp only[maxLen]at hxs;omega);have hnt:(num s'.tab.length).length<=10:=EY (by omega);have hem:=PD s'.tab j;have hem2:=PD s'.tab (j+1);rw[Tw hx]at hem2;have hm4:magicB.length=4:=rfl;have hen:(Dx x).length=(num x.size).length+x.size:=by simp only[Dx,Bh,FH];rfl
    refine A6 ha (Ac (AF (Ac (Ab (AO V V (hi _) V (Ae V (Ai FT hcell') V (Ah V V (Ag ?_))))))));refine Ab (Ae V (Ai C_ out.blk.cell0) V (Aa V V (AI V (GR underlying9) V (BH V (De runUnderlying3 runUnderlying164) V ?_))));rw[DH (by omega) (by simp only[maxLen]at hxs;omega)];refine Af call97 V V (JQ out.row (by simp only[maxLen]at hxs;omega) (by simp only[Bh];omega)) ?_ Am;rintro v1 w1' ⟨r1,g1⟩;obtain⟨v2,w2',hr2,r2,g2⟩:=E7 (w:=w1') (ty:=22) (ys:=x.data.toList) r1 (Src.ofString _ underlying9 x) (by
     rw[Bh,hen]at hem2;simp only[Bh,FH];have:x.data.size=x.size:=rfl;omega)
    obtain⟨hst2,out2⟩:=out.put (g1.trans g2) (λ_ h=>h) r2;refine Aa V V (CX V V hr2 V (An V V hst2 (A2 λa ha=>BK (Ak ?_))));refine A6 ha (Ab (Al V V V V (Aa V V (A2 λa ha=>Ak ?_))));refine⟨(j+1,v2),ha.weak ⟨rfl,rfl,rfl,rfl,rfl,by show some _=some _;rw[Cl (by omega)],trivial⟩,⟨hlt,?_⟩,by simp only;omega⟩;simp only[Tw hx,Dx];simpa only[Dg]using out2
   ·have:j=s'.tab.length:=by simp at hf;omega
    subst this;rw[E5]at out;exact⟨v,ha.weak ⟨V,V,V,trivial⟩,out⟩
  ·intro Ep w10 out;have hel:=PC s'.tab hw6.tabs;have hnt:(num s'.tab.length).length<=10:=EY (by omega);have hm4:magicB.length=4:=rfl;have out':=out.drewn 1;refine Ac (RT 5 FS (by kernel_rfl) ?_);simp only[JH,HQ,Oy,FI];generalize w10.drewN 1=w11 at out'⊢;have e0':w11.cell? ⟨p,0,none⟩=some (.slice gb s'.b.length capb):=by rw[World.cell?_of_block (w:=w6) (rd out'.fr hOp)];exact e0
   have rb':=Cn rb (λk hk=>rd out'.fr (hOb k hk));refine HV V (Ai C_ out'.blk.cell0) V ?_;refine Fy V V ?_;refine HW V V ?_;refine FY (p:=⟨p,0,none⟩) (q:=⟨p,0,none⟩) V ?_ V ?_
   ·intro w';exact Fj w' p 0
   refine HV V (Ai C_ e0') V ?_;refine Mq ?_;obtain⟨v2,w12,hr2,r2,g2⟩:=E7 (ty:=22) out'.row (EA rb').src (by simp only[Bh];omega);have hl28:(magicB++num s'.tab.length++Bu s'.tab++s'.b).length<=2 ^ 45:=by simp only[Bh];omega
   refine CX V V hr2 V (Af call28 V V (Y4 r2 hl28) ?_ Am);rintro v3 w13 ⟨r3,g3⟩;obtain⟨hst,out3⟩:=out'.put (g2.trans g3) (λ_ h=>h) r3;have h7l:b7<w6.heap.size:=d3.blk.lt;have hb7:Blk (w13.setRow b6 [v3].toArray) b7 [.bool false] 4:=(out3.fr.blk b7 h7l (λe=>h67 e.symm)).trans d3.blk;refine An V V hst (An V V (Acz hb7 ⟨rfl,rfl⟩) (Ag (AJ λa ha=>Abn V ha V V (x:=v3) (y:=.bool true) ?_ ?_ ?_)))
   ·exact(setRow_other _ _ _ _ h67).trans out3.blk
   ·exact hb7.setRow _
   ·refine⟨_,rfl,?_,?_⟩
    ·refine Ll (O:=λb=>w.heap.size<=b) (O':=λb=>w.heap.size<=b) f05 (g6.trans ?_) (λ_ h=>h) (λk hk=>?_)
     ·have hf:=out3.fr;have h6w:=AX f05.size g6.size;refine Fr.trans (O':=λb=>w.heap.size<=b) ⟨hf.os,hf.tape,hf.output,hf.size,λk hk hn=>hf.blk k hk (λe=>hn (e▸h6n)),λk hk=>.inl hk⟩ (Fr.setRow _ h7n)
     ·have:=out3.new k hk;have h6w:=AX f05.size g6.size;omega
    ·refine Cn out3.row (λk hk=>setRow_other _ _ _ _ (λe=>by have:=out3.new k hk;omega))
def Ho(t:T):Option (List UInt8):=(F2 1000 16777216 t).bind λbs=>if 16777216<bs.length then none else some bs
def Rh(w:World)(r:Option (List UInt8))(v:Value)(w':World):Prop:=
 ∃vb,Fr (λ_=>False) w (Aw vb) w'/\
  match r with
  |some bs=>v= .tuple #[vb,.int .i64 0]/\w'.ownsRow 0 5 1 vb bs.length (bs.map bv)
  |none=>v= .tuple #[vb,.int .i64 2]/\vb= .slice none 0 0
theorem Fr.fresh_trans{w1 w2:World}{U':Nat->Prop}(f:Fr (λ_=>False) w U w1)(g:Fr (λ_=>False) w1 U' w2):Fr (λ_=>False) w U' w2:=by
 refine⟨g.os.trans f.os,g.tape.trans f.tape,g.output.trans f.output,AX f.size g.size,λb hb _=>?_,λb hb=>.inr ?_⟩
 ·rw[g.blk b (BB hb f.size) (λh=>h),f.blk b hb (λh=>h)]
 ·exact(g.own b hb).elim (λh=>h.elim) (λh=>AX f.size h)
theorem Fr.none{w1:World}(f:Fr (λ_=>False) w U w1):Fr (λ_=>False) w (λ_=>False) w1:=⟨f.os,f.tape,f.output,f.size,f.blk,λ_ h=>h.elim⟩
theorem Ku:Aw (.slice Option.none 0 0)=λ_=>False:=by
 funext b;simp[Aw,Value.ownBlock]
variable{f:Ty}
theorem Rep.fresh{t:T}(h:Rep w S t f cs)(g:Fr (λ_=>False) w U w'):Rep w' S t f cs:=
 Rep.agree (λb hb hl=>⟨hb,BB hl g.size,g.blk b hl (λh=>h)⟩) _ _ _ h
theorem SP{t:T}(hr:Rep w S t (.st .sheet) cs)(hu:11*t.wt<=2 ^ 40):
 Calls prog 23 [.agg cs.toArray].toArray w (End (Rh w (Ho t)) (λ_ _=>False)):=by
 have hlen:cs.length=10:=hr.st_inv.elim λl h=>h.2.1;refine AE 19 func23 V V V ?_;refine Ac (Ab (Cy V V ?_));have a1:Blk (w.alloc (.cells cs.toArray 36)) w.heap.size cs 36:=Cf;have f1:Fr (λ_=>False) w (λ_=>False) (w.alloc (.cells cs.toArray 36)):=Fr.alloc _ _ _;show WL _ _ _ _ _ _ _ (w.alloc (.cells cs.toArray 36));generalize w.alloc (.cells cs.toArray 36)=w1 at a1 f1⊢;refine Ah V V (Ah V V (Ag ?_));refine Ac (Ab (Ae V (AS Ev hlen a1.all) V (Af call44 V V (c44 (most:=1000) (long:=16777216) (hr.fresh f1) hu) ?_ Am)));rintro _ w2 ⟨vb,rfl,f2,h2⟩;have f12:=f1.fresh_trans f2;refine Aa V V (D6 V V V (D6 V V V (Ah V V (Ah V V (Aj [(4,vb),(5,.bool (F2 1000 16777216 t).isSome)] ⟨V,V,trivial⟩ ?_)))));unfold Ho;cases hb:F2 1000 16777216 t with
 |none=>
  rw[hb]at h2;subst h2;refine Ac (Ac (Ab (Aa V V (HZ V V (Aa V V ?_)))));refine Cz (j:=2) V V V V V (Cz (j:=2) V V V V V (Cz (j:=2) V V V V V (BW V V V (Ag ?_))));refine Ga V (Ac (Ab (Ah V V (Ah V V (Ag (AJ λa ha=>C9 (GV V ha V V ⟨_,?_,rfl,rfl⟩)))))));exact f12
 |some bs=>
  rw[hb]at h2;obtain⟨g,cap,rfl,_⟩:=G2 h2;refine Ac (Ac (Ab (Aa V V (HZ V V (Aa V V ?_)))));refine A9 (j:=2) V V V (Aa V V (A9 (j:=2) V V V (AI V (AM underlying22) V (A9 (j:=2) V V V (Al V V (D2 (c:=decide (16777216<bs.length)) (BM.2 (by omega))) V (BW V V V (Ag ?_)))))));refine AN V (λht=>Ac (Ab (Ah V V (Ah V V (Ag (AJ λa ha=>C9 (GV V ha V V ⟨.slice none 0 0,?_,?_⟩))))))) (λhf=>AG λa ha=>Ak ?_)
  ·rw[Ku];exact f12.none
  ·have:16777216<bs.length:=B7 ht;simp[this]
  ·have:¬16777216<bs.length:=B2 hf;refine A6 ha (Ac (Ab (Aa V V (Ah V V (Ah V V (Ag (AJ λa ha=>GV V ha V V ⟨_,f12,?_⟩)))))));simp[this,h2]
def LI:List UInt8->List UInt8->Option (List UInt8)
 |[],b=>some b
 |_::_,[]=>none
 |x::xs,y::ys=>if x=y then LI xs ys else none
theorem WE:∀(a b r:List UInt8),LI a b=some r↔b=a++r
 |[],b,r=>by simp[LI]
 |x::xs,[],r=>by simp[LI]
 |x::xs,y::ys,r=>by
  simp only[LI,CL,List.cons.injEq];split
  ·rename_i h;rw[WE xs ys r];exact⟨λe=>⟨h.symm,e⟩,λe=>e.2⟩
  ·rename_i h;exact⟨λe=>(nomatch e),λe=>(h e.1.symm).elim⟩
variable{a:Nat}
theorem QK(ha:a<256)(hb:b<256)(h:a.toUInt8=b.toUInt8):a=b:=by
 have h1:a.toUInt8.toNat=a:=by simp[Nat.toUInt8,II ha]
 have h2:b.toUInt8.toNat=b:=by simp[Nat.toUInt8,II hb]
 rw[<-h1,<-h2,h]
theorem Qy:∀(m m':Nat) (r r':List UInt8),num m++r=num m'++r'->m=m'/\r=r':=by
 intro m;induction m using Nat.strongRecOn with
 |_ m ih=>
  intro m' r r' h;by_cases h1:m<128
  ·rw[FE h1]at h;by_cases h2:m'<128
   ·rw[FE h2]at h;simp only[CL,Dh,List.cons.injEq]at h;exact⟨QK (by omega) (by omega) h.1,h.2⟩
   ·rw[Jz (by omega)]at h;simp only[CL,Dh,List.cons.injEq]at h;have:=QK (by omega) (by omega) h.1;omega
  ·rw[Jz (by omega)]at h;by_cases h2:m'<128
   ·rw[FE h2]at h;simp only[CL,Dh,List.cons.injEq]at h;have:=QK (by omega) (by omega) h.1;omega
   ·rw[Jz (n:=m') (by omega)]at h;simp only[CL,List.cons.injEq]at h;have e1:=QK (by omega) (by omega) h.1;have e2:=ih (m/128) (by omega) (m'/128) r r' h.2;exact⟨by omega,e2.2⟩
structure RS where
 b:List UInt8
 tab:List ByteArray
 used:Nat
 nest:Nat
def RS.eat(s:RS)(n:Nat):Option RS:=(LI (num n) s.b).map λr=>{s with b:=r}
variable{s' s:RS}
theorem RS.eat_iff:s.eat n=some s'↔s.b=num n++s'.b/\s'={s with b:=s'.b}:=by
 simp only[RS.eat,BG];constructor
 ·rintro⟨r,h,rfl⟩;exact⟨(WE _ _ _).1 h,rfl⟩
 ·rintro⟨h1,h2⟩;exact⟨s'.b,(WE _ _ _).2 h1,h2.symm⟩
theorem FJ{a a':RS}{m:Nat}(h:s.eat n=some a)(h':s.eat m=some a'):n=m/\a=a':=by
 obtain⟨h1,h2⟩:=RS.eat_iff.1 h;obtain⟨h3,h4⟩:=RS.eat_iff.1 h';obtain⟨e1,e2⟩:=Qy _ _ _ _ (h1.symm.trans h3);exact⟨e1,by rw[h2,h4,e2]⟩
theorem Aaa(n:Int):AP n↔(-9223372036854775808<=n/\n<=9223372036854775807):=Iff.rfl
mutual
def AU:T->Ty->RS->Option RS
 | .int n,.int,s=>if-9223372036854775808<=n/\n<=9223372036854775807 then s.eat (C2 n)else none
 | .bool b,.bool,s=>s.eat b.toNat
 | .str x,.str,s=>match s.tab.findIdx? (λy=>decide (y=x))with
  |some k=>if k<=s.used then(s.eat k).map λs'=>{s' with used:=max s.used (k+1)}else none
  |none=>none
 | .list l,.list e,s=>(s.eat l.length).bind λs'=>if l.length<=s'.b.length then D7 l e s' else none
 | .nil,.ptr _,s=>s.eat 0
 | .ptr t,.ptr e,s=>(s.eat 1).bind λs'=>AU t e s'
 | .agg sn l,.st sn',s=>
  if sn=sn' then
   match sn'.deep with
   |true=>if 1000<s.nest+1 then none else(Bn l sn'.fields {s with nest:=s.nest+1}).map λs'=>{s' with nest:=s.nest}
   |false=>Bn l sn'.fields s
  else none
 |_,_,_=>none
def D7:List T->Ty->RS->Option RS
 |[],_,s=>some s
 |t::l,e,s=>(AU t e s).bind λs'=>D7 l e s'
def Bn:List T->List Ty->RS->Option RS
 |[],[],s=>some s
 |t::l,f::fs,s=>(AU t f s).bind λs'=>Bn l fs s'
 |_,_,_=>none
end
theorem Awd{a b:Int}(ha:AP a)(hb:AP b)(h:C2 a=C2 b):a=b:=by
 unfold C2 at h;unfold AP at ha hb;split at h<;>split at h<;>omega
mutual
theorem JR:∀(t t':T) (f:Ty) (s a b:RS),AU t f s=some a->AU t' f s=some b->t=t'/\a=b
 | .int n,t',f,s,a,b,h,h'=>by
  cases f<;>simp only[AU]at h<;>try cases h
  cases t'<;>simp only[AU]at h'<;>try cases h'
  split at h
  ·rename_i h1;split at h'
   ·rename_i h2;have:=FJ h h';exact⟨by rw[Awd h1 h2 this.1],this.2⟩
   ·cases h'
  ·cases h
 | .bool n,t',f,s,a,b,h,h'=>by
  cases f<;>simp only[AU]at h<;>try cases h
  cases t'<;>simp only[AU]at h'<;>try cases h'
  have:=FJ h h';refine⟨?_,this.2⟩;rename_i b';cases n<;>cases b'<;>first|rfl|(exact absurd this.1 (by decide))
 | .str x,t',f,s,a,b,h,h'=>by
  cases f<;>simp only[AU]at h<;>try cases h
  cases t'<;>simp only[AU]at h'<;>try cases h'
  rename_i y;cases hx:s.tab.findIdx? (λz=>decide (z=x))with
  |none=>rw[hx]at h;cases h
  |some k=>
   cases hy:s.tab.findIdx? (λz=>decide (z=y))with
   |none=>rw[hy]at h';cases h'
   |some k'=>
    rw[hx]at h;rw[hy]at h';simp only at h h';split at h
    ·split at h'
     ·simp only[BG]at h h';obtain⟨u,hu,rfl⟩:=h;obtain⟨u',hu',rfl⟩:=h';obtain⟨e1,e2⟩:=FJ hu hu';subst e1 e2;have k1:=(Ka hx).2;have k2:=(Ka hy).2;rw[k1]at k2;exact⟨by rw[Option.some.inj k2],rfl⟩
     ·cases h'
    ·cases h
 | .nil,t',f,s,a,b,h,h'=>by
  cases f<;>simp only[AU]at h<;>try cases h
  cases t'<;>simp only[AU]at h'<;>try cases h'
  ·exact⟨rfl,(FJ h h').2⟩
  ·simp only[BV]at h';obtain⟨u,hu,_⟩:=h';have:=(FJ h hu).1;omega
 | .ptr t,t',f,s,a,b,h,h'=>by
  cases f<;>simp only[AU]at h<;>try cases h
  simp only[BV]at h;obtain⟨u,hu,h⟩:=h;cases t'<;>simp only[AU]at h'<;>try cases h'
  ·have:=(FJ h' hu).1;omega
  ·simp only[BV]at h';obtain⟨u',hu',h'⟩:=h';obtain⟨_,rfl⟩:=FJ hu hu';have:=JR t _ _ u a b h h';exact⟨by rw[this.1],this.2⟩
 | .list l,t',f,s,a,b,h,h'=>by
  cases f<;>simp only[AU]at h<;>try cases h
  simp only[BV]at h;obtain⟨u,hu,h⟩:=h;cases t'<;>simp only[AU]at h'<;>try cases h'
  simp only[BV]at h';obtain⟨u',hu',h'⟩:=h';obtain⟨e,rfl⟩:=FJ hu hu';split at h
  ·split at h'
   ·have:=YC l _ _ u a b e h h';exact⟨by rw[this.1],this.2⟩
   ·cases h'
  ·cases h
 | .agg sn l,t',f,s,a,b,h,h'=>by
  cases f<;>simp only[AU]at h<;>try cases h
  cases t'<;>simp only[AU]at h'<;>try cases h'
  split at h
  ·rename_i e1;split at h'
   ·rename_i e2;subst e1 e2;generalize hd:SN.deep _=d at h h';cases d with
    |false=>
     have:=SW l _ _ s a b h h';exact⟨by rw[this.1],this.2⟩
    |true=>
     simp only at h h';split at h
     ·cases h
     ·rename_i hn;rw[if_neg hn]at h';simp only[BG]at h h';obtain⟨u,hu,rfl⟩:=h;obtain⟨u',hu',rfl⟩:=h';have:=SW l _ _ _ u u' hu hu';exact⟨by rw[this.1],by rw[this.2]⟩
   ·cases h'
  ·cases h
theorem YC:∀(l l':List T) (e:Ty) (s a b:RS),l.length=l'.length->D7 l e s=some a->D7 l' e s=some b->l=l'/\a=b
 |[],l',e,s,a,b,hl,h,h'=>by
  have:l'=[]:=E2 hl.symm;subst this;simp only[D7,Option.some.injEq]at h h';exact⟨rfl,h.symm.trans h'⟩
 |t::l,[],e,s,a,b,hl,h,h'=>by simp at hl
 |t::l,t'::l',e,s,a,b,hl,h,h'=>by
  simp only[D7,BV]at h h';obtain⟨u,hu,h⟩:=h;obtain⟨u',hu',h'⟩:=h';obtain⟨rfl,rfl⟩:=JR t t' e s u u' hu hu';obtain⟨rfl,rfl⟩:=YC l l' e u a b (by simpa using hl) h h';exact⟨rfl,rfl⟩
theorem SW:∀(l l':List T) (fs:List Ty) (s a b:RS),Bn l fs s=some a->Bn l' fs s=some b->l=l'/\a=b
 |[],l',fs,s,a,b,h,h'=>by
  cases fs with
  |nil=>
   simp only[Bn,Option.some.injEq]at h;cases l' with
   |nil=>simp only[Bn,Option.some.injEq]at h';exact⟨rfl,h.symm.trans h'⟩
   |cons x y=>simp only[Bn]at h';cases h'
  |cons f fs=>simp only[Bn]at h;cases h
 |t::l,l',fs,s,a,b,h,h'=>by
  cases fs with
  |nil=>simp only[Bn]at h;cases h
  |cons f fs=>
   cases l' with
   |nil=>simp only[Bn]at h';cases h'
   |cons t' l'=>
    simp only[Bn,BV]at h h';obtain⟨u,hu,h⟩:=h;obtain⟨u',hu',h'⟩:=h';obtain⟨rfl,rfl⟩:=JR t t' f s u u' hu hu';obtain⟨rfl,rfl⟩:=SW l l' fs u a b h h';exact⟨rfl,rfl⟩
end
def E1(f:Ty)(s:RS):Prop:=∀t,AU t f s=none
theorem YF:∀(l:List T) (e:Ty) (t:T) (s:RS),D7 (l++[t]) e s=(D7 l e s).bind λs'=>AU t e s'
 |[],e,t,s=>by simp only[Dh,D7,Cw];cases AU t e s<;>rfl
 |x::l,e,t,s=>by
  simp only[CL,D7];cases AU x e s with
  |none=>rfl
  |some u=>simp only[Cw,YF l e t u]
theorem SY:∀(l:List T) (fs:List Ty) (t:T) (f:Ty) (s s1:RS),Bn l fs s=some s1->Bn (l++[t]) (fs++[f]) s=AU t f s1
 |[],[],t,f,s,s1,h=>by
  simp only[Bn,Option.some.injEq]at h;subst h;simp only[Dh,Bn];cases AU t f s<;>rfl
 |[],f'::fs,t,f,s,s1,h=>by simp only[Bn]at h;cases h
 |x::l,[],t,f,s,s1,h=>by simp only[Bn]at h;cases h
 |x::l,f'::fs,t,f,s,s1,h=>by
  simp only[Bn,BV]at h;obtain⟨u,hu,h⟩:=h;simp only[CL,Bn,hu,Cw];exact SY l fs t f u s1 h
theorem YD:∀(l:List T) (e:Ty) (s s1:RS),D7 l e s=some s1->E1 e s1->∀l',l.length<l'.length->D7 l' e s=none
 |[],e,s,s1,h,hb,l',hl=>by
  simp only[D7,Option.some.injEq]at h;subst h;cases l' with
  |nil=>simp at hl
  |cons t l'=>simp only[D7,hb t];rfl
 |t::l,e,s,s1,h,hb,l',hl=>by
  simp only[D7,BV]at h;obtain⟨u,hu,h⟩:=h;cases l' with
  |nil=>simp at hl
  |cons t' l'=>
   simp only[D7];cases hc:AU t' e s with
   |none=>rfl
   |some u'=>
    obtain⟨rfl,rfl⟩:=JR _ _ _ _ _ _ hu hc;exact YD l e u s1 h hb l' (by simpa using hl)
theorem Pe:∀(l:List T) (fs:List Ty) (f:Ty) (gs:List Ty) (s s1:RS),Bn l fs s=some s1->E1 f s1->∀l',Bn l' (fs++f::gs) s=none
 |[],[],f,gs,s,s1,h,hb,l'=>by
  simp only[Bn,Option.some.injEq]at h;subst h;cases l' with
  |nil=>rfl
  |cons t l'=>simp only[Dh,Bn,hb t];rfl
 |[],f'::fs,f,gs,s,s1,h,hb,l'=>by simp only[Bn]at h;cases h
 |x::l,[],f,gs,s,s1,h,hb,l'=>by simp only[Bn]at h;cases h
 |x::l,f'::fs,f,gs,s,s1,h,hb,l'=>by
  simp only[Bn,BV]at h;obtain⟨u,hu,h⟩:=h;cases l' with
  |nil=>rfl
  |cons t' l'=>
   simp only[CL,Bn];cases hc:AU t' f' s with
   |none=>rfl
   |some u'=>
    obtain⟨rfl,rfl⟩:=JR _ _ _ _ _ _ hu hc;exact Pe l fs f gs u s1 h hb l'
variable{s1:RS}{l:List T}{sn:SN}
theorem Ae4{fs gs:List Ty}(hd:sn.deep=false)(hf:sn.fields=fs++f::gs)(h:Bn l fs s=some s1)(hb:E1 f s1):E1 (.st sn) s:=by
 intro t;cases t<;>simp only[AU];split
 ·rw[hd];simp only;rw[hf];exact Pe _ _ _ _ _ _ h hb _
 ·rfl
theorem Dk{fs gs:List Ty}(hd:sn.deep=true)(hf:sn.fields=fs++f::gs)(h:Bn l fs {s with nest:=s.nest+1}=some s1)(hb:E1 f s1):E1 (.st sn) s:=by
 intro t;cases t<;>simp only[AU];split
 ·rw[hd];simp only;split
  ·rfl
  ·rw[hf,Pe _ _ _ _ _ _ h hb _];rfl
 ·rfl
theorem Sw(hd:sn.deep=true)(h:1000<s.nest+1):E1 (.st sn) s:=by
 intro t;cases t<;>simp only[AU];rw[hd];simp only[if_pos h,ite_self]
theorem good_st(hd:sn.deep=false)(h:Bn l sn.fields s=some s1):AU (.agg sn l) (.st sn) s=some s1:=by
 simp only[AU,if_true,hd,h]
theorem good_deep(hd:sn.deep=true)(hn:¬1000<s.nest+1)(h:Bn l sn.fields {s with nest:=s.nest+1}=some s1):AU (.agg sn l) (.st sn) s=some {s1 with nest:=s.nest}:=by
 simp only[AU,if_true,hd,h,if_neg hn,KI]
structure KM(n0 p:Nat)(s:RS)(w:World)(vb vt:Value):Prop where
 blk:Blk w p [vb,vt,.int .i64 s.used,.int .i64 s.nest] 92
 bts:Bts w vb s.b
 nb:∀k,Aw vb k->k<n0/\k≠p
 row:w.ownsRow 0 9 1 vt s.tab.length (s.tab.map Value.string)
 nt:∀k,Aw vt k->k<n0/\k≠p
structure RSt(n0 p:Nat)(s:RS)(w:World):Prop where
 lp:p<n0
 ln:n0<=w.heap.size
 mem:∃vb vt,KM n0 p s w vb vt
 nodup:s.tab.Nodup
 tabs:∀x∈s.tab,x.size<=maxLen
 sb:s.b.length<=2 ^ 25
 st:s.tab.length<=2 ^ 25
 su:s.used<=s.tab.length
 sn:s.nest<=1001
abbrev only(p:Nat):Nat->Prop:=λb=>b=p
section
variable{n0 p:Nat}{s:RS}{w:World}
theorem Bts.keepB{w:World}{bs:List UInt8}(h:Bts w v bs)(hs:w.heap.size<=w'.heap.size)(hb:∀b,Aw v b->w'.heap[b]? =w.heap[b]?):Bts w' v bs:=by
 refine⟨h.1,?_⟩;rcases h.2 with h|⟨b,o,cap,rfl,hl,ha,hc⟩
 ·exact .inl h
 ·exact .inr ⟨b,o,cap,rfl,BB hl hs,ha.agree (hb b V),hc⟩
theorem RSt.keep(h:RSt n0 p s w){U':Nat->Prop}(f:Fr U w U' w')(hu:∀k,U k->n0<=k):RSt n0 p s w':=by
 obtain⟨vb,vt,m⟩:=h.mem;have hb:∀k,k<n0->w'.heap[k]? =w.heap[k]? :=λk hk=>f.blk k (BB hk h.ln) (λhk'=>by have:=hu k hk';omega);exact⟨h.lp,AX h.ln f.size,⟨vb,vt,(hb p h.lp).trans m.blk,m.bts.keepB f.size (λk hk=>hb k (m.nb k hk).1),m.nb,Cn m.row (λk hk=>hb k (m.nt k hk).1),m.nt⟩,h.nodup,h.tabs,h.sb,h.st,h.su,h.sn⟩
theorem RSt.cells(h:RSt n0 p s w):∃vb vt,w.cell? ⟨p,0,none⟩=some vb/\w.cell? ⟨p,1,none⟩=some vt/\w.cell? ⟨p,2,none⟩=some (.int .i64 s.used)/\w.cell? ⟨p,3,none⟩=some (.int .i64 s.nest)/\KM n0 p s w vb vt:=by
 obtain⟨vb,vt,m⟩:=h.mem;exact⟨vb,vt,by rw[m.blk.cell];rfl,by rw[m.blk.cell];rfl,by rw[m.blk.cell];rfl,by rw[m.blk.cell];rfl,m⟩
theorem RSt.set(h:RSt n0 p s w){vb vt vb':Value}(m:KM n0 p s w vb vt)(hb:Bts w vb' s'.b)(hnb:∀k,Aw vb' k->k<n0/\k≠p)(ht:s'.tab=s.tab)
 (h1:s'.b.length<=2 ^ 25) (h2:s'.used<=s'.tab.length) (h3:s'.nest<=1001):RSt n0 p s' (w.setRow p [vb',vt,.int .i64 s'.used,.int .i64 s'.nest].toArray):=by
 refine⟨h.lp,by simp only[E8];exact h.ln,⟨vb',vt,m.blk.setRow _,hb.keepB (by simp only[E8];exact Ay _) (λk hk=>setRow_other _ _ _ _ (hnb k hk).2),hnb,?_,m.nt⟩,ht▸h.nodup,ht▸h.tabs,h1,ht▸h.st,h2,h3⟩;rw[ht];exact Cn m.row (λk hk=>setRow_other _ _ _ _ (m.nt k hk).2)
end
theorem I4:Ax prog 92 0 0:=fA underlying92 rfl sizeOf22 rfl rfl
theorem Oa:Ax prog 92 1 1:=fA underlying92 rfl sizeOf44 rfl rfl
theorem QP:Ax prog 92 2 2:=fA underlying92 rfl sizeOf3 rfl rfl
theorem Oc:Ax prog 92 3 3:=fA underlying92 rfl sizeOf3 rfl rfl
theorem Wx(k:IntKind)(i:Int)(y:Nat)(code:BoundsCode)(h0:0<=i)(h1:i<=y):
 (Instr.sliceBound (.int k i) y code).run P w= .ok i.toNat w:=by
 simp[Instr.sliceBound,asIntOf,h0,h1]
variable{k:Nat}
theorem IR{bs:List UInt8}(h:Bts w v bs){lo hi:Option Value}{l:Nat}(hl:(lo=none/\l=0)\/lo=some (.int .i64 (l:Int)))(hk:(hi=none/\k=bs.length)\/hi=some (.int .i64 (k:Int)))
 (h1:l<=k) (h2:k<=bs.length):∃v',(∀w',(Instr.sliceAt 22 v lo hi none).run prog w'= .ok v' w')/\Bts w v' ((bs.take k).drop l)/\(∀b,Aw v' b->Aw v b):=by
 have hlen:((bs.take k).drop l).length=k-l:=by simp;omega
 rcases h.2 with⟨rfl,rfl⟩|⟨b,o,cap,rfl,hb,ha,hc⟩
 ·have:k=0:=by simpa using h2
  subst this;have:l=0:=by omega
  subst this;refine⟨.slice none 0 0,λw'=>?_,⟨by simp,.inl ⟨rfl,by simp⟩⟩,λb hb=>hb⟩;rcases hl with⟨rfl,_⟩|rfl<;>rcases hk with⟨rfl,_⟩|rfl<;>simp[Instr.sliceAt,Instr.slice,runUnderlying22,Instr.sliceBounds,sizeOf5,Wx]
 ·have hbd:(Instr.sliceBounds true bs.length cap lo hi none)=(do
   let m <-pure cap;let h <-(match hi with|some v=>Instr.sliceBound v m .sliceAcap|none=>pure bs.length);let l <-(match lo with|some v=>Instr.sliceBound v h .sliceB|none=>pure 0);pure (l,h,m)):=by
   cases lo<;>cases hi<;>rfl
  have hr:∀w',(Instr.sliceBounds true bs.length cap lo hi none).run prog w'= .ok (l,k,cap) w':=by
   intro w';rw[hbd];have r1:∀w',(Instr.sliceBound (.int .i64 (k:Int)) cap .sliceAcap).run prog w'= .ok k w':=λw'=>by
    have:=Wx (P:=prog) (w:=w') .i64 (k:Int) cap .sliceAcap (by omega) (by omega);simpa using this
   have r2:∀w',(Instr.sliceBound (.int .i64 (l:Int)) k .sliceB).run prog w'= .ok l w':=λw'=>by
    have:=Wx (P:=prog) (w:=w') .i64 (l:Int) k .sliceB (by omega) (by omega);simpa using this
   rcases hl with⟨rfl,rfl⟩|rfl<;>rcases hk with⟨rfl,rfl⟩|rfl<;>simp[r1,r2]
  refine⟨.slice (if cap=l then some ⟨b,o,none⟩else some ⟨b,o+l,none⟩) (k-l) (cap-l),λw'=>?_,?_,?_⟩
  ·simp[Instr.sliceAt,Instr.slice,runUnderlying22,hr,sizeOf5,Addr.add_lit]
  ·refine⟨by rw[hlen];have:=h.1;omega,.inr ?_⟩;by_cases he:cap=l
   ·refine⟨b,o,cap-l,by rw[if_pos he,hlen],hb,?_,by rw[hlen];omega⟩;have:(bs.take k).drop l=[]:=E2 (by omega);rw[this];intro j v hj;simp at hj
   ·refine⟨b,o+l,cap-l,by rw[if_neg he,hlen],hb,?_,by rw[hlen];omega⟩;have:=ha.sub l (k-l);intro j v hj;refine this j v ?_;rw[<-List.map_drop,<-List.map_take,<-hj,List.drop_take]
  ·intro c hc;have:b=c:=by
    by_cases he:cap=l<;>simpa[Aw,Value.ownBlock,he]using hc
   subst this;rfl
def NumInv(b:List UInt8)(i acc:Nat):Prop:=
 acc<2 ^ (7*i)/\(∀m r,b=num m++r->∃m',m=acc+2 ^ (7*i)*m'/\b.drop i=num m'++r/\(0<i->0<m'))/\
  (∀m' r,b.drop i=num m'++r->(0<i->0<m')->b=num (acc+2 ^ (7*i)*m')++r)
theorem NumInv.start(b:List UInt8):NumInv b 0 0:=⟨by simp,λm r h=>⟨m,by simp,by simpa using h,by simp⟩,λm' r h _=>by simpa using h⟩
theorem WN(h:n<256):n.toUInt8.toNat=n:=by simp[Nat.toUInt8,II h]
theorem Ac_(c:UInt8):c.toNat.toUInt8=c:=by
 apply UInt8.toNat_inj.1;exact WN c.toNat_lt
variable{c:UInt8}{i:Nat}
theorem Pp{b:List UInt8}(h:b[i]? =some c):b.drop i=c::b.drop (i+1):=by
 obtain⟨h1,h2⟩:=C3.1 h;rw[List.drop_eq_getElem_cons h1,h2]
theorem VT{m:Nat}{r l:List UInt8}(h:c::l=num m++r):(c.toNat<128/\m=c.toNat/\l=r)\/(128<=c.toNat/\∃m',0<m'/\m=(c.toNat-128)+128*m'/\l=num m'++r):=by
 by_cases hm:m<128
 ·rw[FE hm]at h;simp only[CL,Dh,List.cons.injEq]at h;left;have:=WN (n:=m) (by omega);rw[h.1];exact⟨by omega,by omega,h.2⟩
 ·rw[Jz (by omega)]at h;simp only[CL,List.cons.injEq]at h;right;have:=WN (n:=m%128+128) (by omega);rw[h.1];exact⟨by omega,m/128,by omega,by omega,h.2⟩
theorem Aso(i:Nat):2 ^ (7*(i+1))=2 ^ (7*i)*128:=by
 rw[show 7*(i+1)=7*i+7 by omega,Nat.pow_add]
variable{acc:Nat}
theorem NumInv.step{b:List UInt8}(h:NumInv b i acc)(hc:b[i]? =some c)(hge:128<=c.toNat):NumInv b (i+1) (acc+2 ^ (7*i)*(c.toNat-128)):=by
 obtain⟨h1,h2,h3⟩:=h;have hlt:=c.toNat_lt;rw[NumInv,Aso];generalize 2 ^ (7*i)=q at*;have hd:=Pp hc;refine⟨?_,?_,?_⟩
 ·have:q*(c.toNat-128)<=q*127:=IJ _ (by omega);omega
 ·intro m r hm;obtain⟨m',e1,e2,_⟩:=h2 m r hm;rw[hd]at e2;rcases VT e2 with⟨hlt',_⟩|⟨_,m'',hp,e3,e4⟩
  ·omega
  ·refine⟨m'',?_,e4,λ_=>hp⟩;rw[e1,e3,Mm,HT,Fe]
 ·intro m' r hr hp;have hp':=hp (by omega);have hnum:c::b.drop (i+1)=num ((c.toNat-128)+128*m')++r:=by
   rw[Jz (by omega),hr];have e1:((c.toNat-128+128*m')%128+128)=c.toNat:=by omega
   have e2:(c.toNat-128+128*m')/128=m':=by omega
   rw[e1,e2,Ac_];rfl
  have:=h3 ((c.toNat-128)+128*m') r (hd.trans hnum) (λ_=>by omega);rw[this,Mm,HT,Fe]
theorem NumInv.last{b:List UInt8}(h:NumInv b i acc)(hc:b[i]? =some c)(hlt:c.toNat<128)(hz:0<i->c.toNat≠0):b=num (acc+2 ^ (7*i)*c.toNat)++b.drop (i+1):=by
 refine h.2.2 c.toNat _ ?_ (λhi=>by have:=hz hi;omega);rw[Pp hc,FE hlt,Ac_];rfl
theorem NumInv.none_end{b:List UInt8}(h:NumInv b b.length acc)(m:Nat)(r:List UInt8):b≠num m++r:=by
 intro e;obtain⟨m',_,e2,_⟩:=h.2.1 m r e;rw[List.drop_length]at e2;have:=HC m';have h3:=congrArg List.length e2;simp at h3;omega
theorem NumInv.none_zero{b:List UInt8}(h:NumInv b i acc)(hc:b[i]? =some c)(hi:0<i)(h0:c.toNat=0)(m:Nat)(r:List UInt8):b≠num m++r:=by
 intro e;obtain⟨m',_,e2,e3⟩:=h.2.1 m r e;rw[Pp hc]at e2;have:=e3 hi;rcases VT e2 with⟨_,e4,_⟩|⟨_,_⟩<;>omega
theorem NumInv.none_big{b:List UInt8}(h:NumInv b 9 acc)(hc:b[9]? =some c)(h1:1<c.toNat)(m:Nat)(r:List UInt8)(hm:m<18446744073709551616):b≠num m++r:=by
 intro e;obtain⟨m',e1,e2,e3⟩:=h.2.1 m r e;rw[Pp hc]at e2;have h2:2<=m':=by rcases VT e2 with⟨_,e4,_⟩|⟨_,_,_,_,_⟩<;>omega
 simp only[Nat.reduceMul,Nat.reducePow]at e1;omega
section
variable{P:Program}{w:World}{t:TypeId}
theorem N2(h:n<18446744073709551616):(BitVec.ofInt 64 (n:Int)).toNat=n:=by
 rw[LW];omega
theorem As_(h:n<18446744073709551616):(binOp .and t (.int .u64 (n:Int)) (.int .u64 127)).run P w= .ok (.int .u64 ((n%128:Nat):Int)) w:=by
 show Result.ok (Value.int .u64 (IntKind.u64.wrap ((BitVec.ofInt 64 (n:Int)&&& BitVec.ofInt 64 127).toNat:Nat))) w=_;have:(BitVec.ofInt 64 (n:Int)&&& BitVec.ofInt 64 127).toNat=n%128:=by
  rw[K9,N2 h];exact O8 n 7
 rw[this,DH (by omega) (by omega)]
theorem As9(h:n<18446744073709551616):(binOp .and t (.int .u64 (n:Int)) (.int .u64 1)).run P w= .ok (.int .u64 ((n%2:Nat):Int)) w:=by
 show Result.ok (Value.int .u64 (IntKind.u64.wrap ((BitVec.ofInt 64 (n:Int)&&& BitVec.ofInt 64 1).toNat:Nat))) w=_;have:(BitVec.ofInt 64 (n:Int)&&& BitVec.ofInt 64 1).toNat=n%2:=by
  rw[K9,N2 h];exact O8 n 1
 rw[this,DH (by omega) (by omega)]
variable{d:Nat}
theorem Atq{k:IntKind}{c:Int}(hc:c=(d:Int))(hd:d<=64)(h:a*2 ^ d<18446744073709551616):(binOp .shl t (.int .u64 (a:Int)) (.int k c)).run P w= .ok (.int .u64 ((a*2 ^ d:Nat):Int)) w:=by
 subst hc;show(Op.shift .shl .u64 a k d).run P w=_;have h1:¬((d:Int)<0):=by omega
 have h2:((a:Int)*2 ^ d)=((a*2 ^ d:Nat):Int):=by simp
 have h3:min d IntKind.u64.bits=d:=O9 hd;simp only[Op.shift,h1,if_false,Do,h3,h2];rw[DH (by omega) (by omega)];rfl
theorem Atk{c:Nat}(ha:a<2 ^ d)(h:a+2 ^ d*c<18446744073709551616):(binOp .or t (.int .u64 (a:Int)) (.int .u64 ((c*2 ^ d:Nat):Int))).run P w= .ok (.int .u64 ((a+2 ^ d*c:Nat):Int)) w:=by
 show Result.ok (Value.int .u64 (IntKind.u64.wrap ((BitVec.ofInt 64 (a:Int)|||BitVec.ofInt 64 ((c*2 ^ d:Nat):Int)).toNat:Nat))) w=_;have:(BitVec.ofInt 64 (a:Int)|||BitVec.ofInt 64 ((c*2 ^ d:Nat):Int)).toNat=a+2 ^ d*c:=by
  rw[BitVec.toNat_or,N2 (by omega),N2 (by rw[HU];omega)];have:=Nat.two_pow_add_eq_or_of_lt ha c;rw[HU c,Nat.or_comm,<-this,R_]
 rw[this,DH (by omega) (by omega)]
end
def RQ(p:Nat)(w w':World):Prop:=
 w'.cell? ⟨p,1,none⟩=w.cell? ⟨p,1,none⟩/\∀v v',w.cell? ⟨p,0,none⟩=some v->w'.cell? ⟨p,0,none⟩=some v'->∀k,Aw v' k->Aw v k
def Ad8(n0 p:Nat)(s:RS)(w:World)(v:Value)(w':World):Prop:=
 ∃n s',n<18446744073709551616/\s.eat n=some s'/\v= .int .u64 ((n:Nat):Int)/\RSt n0 p s' w'/\Fr (only p) w (only p) w'/\RQ p w w'
def Ad7(n0 p:Nat)(s:RS)(w:World)(ch:List PanicEntry)(w':World):Prop:=
 ch=Eg/\(∀n,n<18446744073709551616->s.eat n=none)/\RSt n0 p s w'/\Fr (only p) w (only p) w'
theorem Pr(h:∀r,s.b≠num n++r):s.eat n=none:=by
 cases he:s.eat n with
 |none=>rfl
 |some s'=>exact absurd (RS.eat_iff.1 he).1 (h _)
variable{n0:Nat}
theorem OW(h:RSt n0 p s w):Calls prog 115 [ptr p].toArray w (End (Ad8 n0 p s w) (Ad7 n0 p s w)):=by
 obtain⟨vb,vt,e0,e1,e2,e3,m⟩:=h.cells;have hsb:=h.sb;have hbts:=m.bts;obtain⟨g,cap,rfl,hget⟩:=hbts.val;refine AE 60 func115 V V V ?_;refine Ac (Ab (Ah V V (Ag (Ac (Ab (Ah V V (Ag ?_)))))));refine CM (ι:=Nat) (λ_=>[]) (λ_ w'=>w=w'/\∀n,n<18446744073709551616->s.eat n=none) ?_ ?_
 ·refine Ac (Ab (Aa V V (AR V V (Ad V (I4 _ _ _) V (Ae V (Ai C_ e0) V (AI V (AM underlying22) V (Aa V V (Ag ?_))))))));refine AF (BP (ι:=Nat×Nat) (λi=>[(0,ptr p),(3,.int .u64 i.2),(10,.int .i64 s.b.length),(11,.int .i64 i.1)]) (λi w'=>i.1<=s.b.length/\i.1<=9/\w=w'/\NumInv s.b i.1 i.2) (λi=>s.b.length-i.1) (0,0)
   ⟨V,V,V,V,trivial⟩ ⟨AW _,by decide,rfl,NumInv.start _⟩ ?_)
  rintro⟨i,acc⟩ _ ⟨hi,hi9,rfl,hinv⟩;simp only at hi hi9 hinv⊢;refine Ac (Ab (Al V V V V (Ag (Ac ?_))));refine AN V (λht=>AG λa ha=>Ak ?_) (λhf=>BC λa ha=>AD (AD (B_ (Ak ?_))))
  ·have hlt:i<s.b.length:=by simp at ht;omega
   obtain⟨c,hc⟩:∃c,s.b[i]? =some c:=⟨_,Bm hlt⟩;obtain⟨b,o,rfl,hcell,_⟩:=hget i c hc;have hc256:=c.toNat_lt;have hacc:acc<18446744073709551616:=BB hinv.1 (AX (RJ (by decide) (by omega:7*i<=63)) (by decide));have hia:∀w,(Instr.indexAt 22 (.slice (some ⟨b,o,none⟩) s.b.length cap) (.int .i64 i)).run prog w= .ok (.pointer (some ⟨b,o+i,none⟩)) w:=λw=>by
    have:=Dy (P:=prog) (w:=w) (b:=b) (o:=o) (cap:=cap) (i:=(i:Int)) underlying22 G8 (by omega) (by omega:(i:Int)<(s.b.length:Nat));rwa[Do,JJ]at this
   refine A6 ha (Ac (AF (Ac (Ab (Aa V V (Ah V V (Ag ?_)))))));refine Ac (Ab (Aa V V (AR V V (Ad V (I4 _ _ _) V (Ae V (Ai C_ e0) V (Aa V V (AO V V (hia _) V (Ae V (Ai G8 hcell) V ?_))))))));refine BH V (De runUnderlying5 runUnderlying164) V ?_;rw[DH (by omega) (by omega)];refine Ah V V (Aj [(0,ptr p),(3,.int .u64 acc),(4,.int .i64 i),(5,.int .u64 ((c.toNat:Nat):Int)),(10,.int .i64 s.b.length),(11,.int .i64 i)] ⟨V,V,V,V,V,V,trivial⟩ ?_);refine CM (ι:=Nat) (λ_=>[(0,ptr p),(3,.int .u64 acc),(4,.int .i64 i),(5,.int .u64 ((c.toNat:Nat):Int)),(10,.int .i64 s.b.length),(11,.int .i64 i)]) (λ_ w'=>w=w'/\(0<i->c.toNat≠0)/\(i=9->c.toNat<=1)) ?_ ?_
   ·by_cases h9:i=9
    ·subst h9;refine Ac (Ab (Aa V V (Al V V (E0 (c:=true) V) V (Aa V V ?_))));by_cases h1:1<c.toNat
     ·refine A9 (j:=2) V V V (Aa V V (A9 (j:=2) V V V (Al V V (D2 (c:=true) (decide_eq_true (by omega)).symm) V (BW V V V (Aa V V ?_)))));refine Cz (j:=6) V V V V V (Cz (j:=6) V V V V V (Cz (j:=6) V V V V V (Cz (j:=9) V V V V V (Cz (j:=9) V V V V V (Cz (j:=6) V V V V V (BW V V V (Ag ?_)))))));refine Ga V (BC λa ha=>AD (OS V (AD (AD (B_ (Ak ⟨0,ha.weak trivial,rfl,λn hn=>Pr (λr=>hinv.none_big hc h1 n r hn)⟩))))))
     ·refine A9 (j:=2) V V V (Aa V V (A9 (j:=2) V V V (Al V V (D2 (c:=false) (decide_eq_false (by omega)).symm) V (BW V V V (Aa V V ?_)))));refine A9 (j:=6) V V V (Aa V V (A9 (j:=6) V V V (Al V V (D2 (c:=true) V) V (A9 (j:=6) V V V (Aa V V ?_)))));refine A9 (j:=9) V V V (Aa V V (A9 (j:=9) V V V (Al V V (E0 (c:=decide (c.toNat=0)) (BM.2 (by omega))) V (A9 (j:=6) V V V (BW V V V (BW V V V (Ag ?_)))))));refine AN V (λht=>BC λa ha=>AD (OS V (AD (AD (B_ (Ak ⟨0,ha.weak trivial,rfl,λn hn=>Pr (λr=>hinv.none_zero hc (by decide) (B7 ht) n r)⟩)))))) (λhf=>AG λa ha=>Ak ?_);exact⟨0,ha.weak ⟨V,V,V,V,V,V,trivial⟩,rfl,λ_=>B2 hf,λ_=>by omega⟩
    ·refine Ac (Ab (Aa V V (Al V V (E0 (c:=false) (decide_eq_false (by omega)).symm) V (Aa V V ?_))));refine Cz (j:=2) V V V V V (Cz (j:=2) V V V V V (BW V V V (Aa V V ?_)));by_cases h0:0<i
     ·refine A9 (j:=6) V V V (Aa V V (A9 (j:=6) V V V (Al V V (D2 (c:=true) (decide_eq_true (by omega)).symm) V (A9 (j:=6) V V V (Aa V V ?_)))));refine A9 (j:=9) V V V (Aa V V (A9 (j:=9) V V V (Al V V (E0 (c:=decide (c.toNat=0)) (BM.2 (by omega))) V (A9 (j:=6) V V V (BW V V V (BW V V V (Ag ?_)))))));refine AN V (λht=>BC λa ha=>AD (OS V (AD (AD (B_ (Ak ⟨0,ha.weak trivial,rfl,λn hn=>Pr (λr=>hinv.none_zero hc h0 (B7 ht) n r)⟩)))))) (λhf=>AG λa ha=>Ak ?_);exact⟨0,ha.weak ⟨V,V,V,V,V,V,trivial⟩,rfl,λ_=>B2 hf,λh=>absurd h h9⟩
     ·refine A9 (j:=6) V V V (Aa V V (A9 (j:=6) V V V (Al V V (D2 (c:=false) (decide_eq_false (by omega)).symm) V (A9 (j:=6) V V V (Aa V V ?_)))));refine Cz (j:=9) V V V V V (Cz (j:=9) V V V V V (A9 (j:=6) V V V (BW V V V (BW V V V (Ag ?_)))));refine Fz V (AG λa ha=>Ak ?_);exact⟨0,ha.weak ⟨V,V,V,V,V,V,trivial⟩,rfl,λh=>absurd h h0,λh=>absurd h h9⟩
   ·rintro _ _ ⟨rfl,hz,h9⟩;have hfit:acc+2 ^ (7*i)*(c.toNat%128)<18446744073709551616:=by
     have h1:=hinv.1;by_cases hi9':i=9
     ·subst hi9';have:=h9 rfl;have:c.toNat%128<=1:=by omega
      simp only[Nat.reduceMul,Nat.reducePow]at h1⊢;omega
     ·have h2:2 ^ (7*i)<=2 ^ 56:=RJ (by decide) (by omega);have h3:2 ^ (7*i)*(c.toNat%128)<=2 ^ 56*127:=JI h2 (by omega);simp only[Nat.reducePow,Nat.reduceMul]at h2 h3;omega
    have hmul:∀w,(binOp .mul 3 (.int .i64 7) (.int .i64 (i:Int))).run prog w= .ok (.int .i64 ((7*i:Nat):Int)) w:=λw=>by
     show Result.ok (Value.int .i64 (IntKind.i64.wrap (7*(i:Int)))) w=_;rw[CS (by unfold AP;omega)];simp
    refine Ac (Ab (Aa V V (Aa V V (Al V V (As_ (by omega)) V (Aa V V (Al V V (hmul _) V ?_))))));refine BH V (De runUnderlying3 runUnderlying130) V ?_;rw[DH (by omega) (by omega)];refine Al V V (Atq (d:=7*i) V (by omega) (by rw[HU];omega)) V (Al V V (Atk hinv.1 hfit) V (Ah V V (Ag ?_)));refine Ac (Ab (Aa V V (Al V V (CR (c:=decide (c.toNat<128)) (BM.2 (by omega))) V (Ag ?_))));refine AN V (λht=>?_) (λhf=>AG λa ha=>?_)
    ·have hlt128:c.toNat<128:=B7 ht;have hb:=hinv.last hc hlt128 hz;obtain⟨v',hsl,hbts',hown⟩:=IR hbts (lo:=some (.int .i64 ((i+1:Nat):Int))) (hi:=none) (l:=i+1) (k:=s.b.length) (.inr rfl) (.inl ⟨rfl,rfl⟩) hlt (Ay _);rw[E5]at hbts';have hst:=CG (P:=prog) (t:=22) (n:=1) (agg:=false) (b:=p) (o:=0) (v:=v') (vs:=[v']) C_ (by rcases hbts'.val with⟨_,_,rfl,_⟩;rfl) rfl (by rcases hbts'.val with⟨_,_,rfl,_⟩;simp[Value.oneCell']) m.blk (by simp);rw[W5]at hst;have hset:=h.set (s':={s with b:=s.b.drop (i+1)}) m hbts' (λk hk=>m.nb k (hown k hk)) rfl (by simp only[ID];omega) h.su h.sn;refine Ac (Ab (Aa V V (Aa V V (AR V V (Ad V (I4 _ _ _) V (Ae V (Ai C_ e0) V (Aa V V (Al V V (v:=.int .i64 ((i+1:Nat):Int)) ?_ V ?_))))))))
     ·exact congrArg (λv=>Result.ok v w) (Cl (by omega))
     refine Ia (vl:=some (.int .i64 ((i+1:Nat):Int))) (vh:=none) V V V (hsl _) V (AR V V (Ad V (I4 _ _ _) V (An V V hst (Ag ?_))));refine Ac (Ab (Aa V V (Ah V V (Ag (AJ λa ha=>GL (C9 (C9 (GL (C9 (Ch V ha V ⟨_,_,hfit,?_,rfl,hset,Fr.setRow _ V,⟨by rw[(m.blk.setRow _).cell,e1];rfl,λv0 v1 g0 g1 k hk=>by
      rw[e0]at g0;cases g0;rw[(m.blk.setRow _).cell]at g1;cases g1;exact hown k hk⟩⟩))))))))))
     rw[RS.eat_iff,II hlt128];exact⟨hb,rfl⟩
    ·have hge:128<=c.toNat:=by have:=B2 hf;omega
     have hn9:i≠9:=λe=>by have:=h9 e;omega
     refine BK (Ak (A6 ha (Ab (Al V V V V (Aa V V (A2 λa ha=>Ak ?_))))));refine⟨(i+1,acc+2 ^ (7*i)*(c.toNat%128)),ha.weak ⟨rfl,rfl,rfl,by show some _=some _;rw[Cl (by omega)],trivial⟩,⟨hlt,by show i+1<=9;omega,rfl,?_⟩,by simp only;omega⟩;have:=hinv.step hc hge;rwa[show c.toNat-128=c.toNat%128 by omega]at this
  ·have:i=s.b.length:=by simp at hf;omega
   subst this;exact⟨0,ha.weak trivial,rfl,λn _=>Pr (λr=>hinv.none_end n r)⟩
 ·rintro _ _ ⟨rfl,hno⟩;exact Ab (HY V V (λa ha=>A8 ha ⟨rfl,hno,h,Fr.refl _ _⟩) V V)
theorem FB(h:s.eat n=some s'):s'.nest=s.nest/\s'.tab=s.tab/\s'.used=s.used:=by
 have:=(RS.eat_iff.1 h).2;rw[this];exact⟨rfl,rfl,rfl⟩
def Ad5(n0 p:Nat)(s:RS)(w:World)(v:Value)(w':World):Prop:=
 ∃n s',s.eat n=some s'/\n<=s'.b.length/\v= .int .i64 ((n:Nat):Int)/\RSt n0 p s' w'/\Fr (only p) w (only p) w'/\RQ p w w'
def Ad4(n0 p:Nat)(s:RS)(w:World)(ch:List PanicEntry)(w':World):Prop:=
 ch=Eg/\(∀n s',s.eat n=some s'->¬n<=s'.b.length)/\∃s',RSt n0 p s' w'/\Fr (only p) w (only p) w'/\s'.nest=s.nest
theorem SQ(h:RSt n0 p s w):Calls prog 54 [ptr p].toArray w (End (Ad5 n0 p s w) (Ad4 n0 p s w)):=by
 refine AE 18 func54 V V V ?_;refine Ac (Ab (Ah V V (Ag (Ac (Ab (Aa V V (Af call115 V V (OW h) ?_ ?_)))))));rotate_left
 ·rintro ch w1 ⟨rfl,hno,h1,f1⟩ a ha;refine Ap (A8 ha ⟨rfl,λn s' he hle=>?_,s,h1,f1,rfl⟩);have hb:=(RS.eat_iff.1 he).1;have hs:=h.sb;have hl:s.b.length=(num n).length+s'.b.length:=by rw[hb,Bh]
  rw[hno n (by omega)]at he;cases he
 rintro _ w1 ⟨n,s',hn,he,rfl,h1,f1,hv1⟩;obtain⟨vb,vt,e0,e1,e2,e3,m⟩:=h1.cells;obtain⟨g,cap,rfl,_⟩:=m.bts.val;have hsb:=h1.sb;refine Ah V V (Ag ?_);refine Ac (Ac (Ab (Aa V V (Aa V V (AR V V (Ad V (I4 _ _ _) V (Ae V (Ai C_ e0) V (AI V (AM underlying22) V (BH V (De runUnderlying3 runUnderlying164) V ?_)))))))));rw[DH (by omega) (by omega)];refine Al V V (D2 (c:=decide (s'.b.length<n)) (BM.2 (by omega))) V (Ag ?_);refine AN V (λht=>Ab (HY V V (λa ha=>?_) V V)) (λhf=>AG λa ha=>Ak ?_)
 ·have hlt:=B7 ht;refine Ap (A8 ha ⟨rfl,λn' s'' he' hle=>?_,s',h1,f1,(FB he).1⟩);obtain⟨rfl,rfl⟩:=FJ he he';omega
 ·have hle:n<=s'.b.length:=by have:=B2 hf;omega
  refine A6 ha (Ac (Ab (Aa V V (BH V (De runUnderlying164 runUnderlying3) V ?_))));rw[CS (by unfold AP;omega)];exact Ah V V (Ag (AJ λa ha=>Ch V ha V ⟨n,s',he,hle,rfl,h1,f1,hv1⟩))
def IM(n0 p:Nat)(ty:Ty)(s:RS)(w:World)(v:Value)(w':World):Prop:=
 ∃t s' cs,AU t ty s=some s'/\v=E_ ty cs/\Rep w' (λb=>w.heap.size<=b) t ty cs/\RSt n0 p s' w'/\Fr (only p) w (only p) w'/\s'.nest=s.nest
def IL(n0 p:Nat)(ty:Ty)(s:RS)(w:World)(ch:List PanicEntry)(w':World):Prop:=
 ch=Eg/\E1 ty s/\∃s',RSt n0 p s' w'/\Fr (only p) w (only p) w'/\s.nest<=s'.nest
def Be(n0 p:Nat)(f:FuncId)(ty:Ty)(k:Nat):Prop:=
 ∀s w,RSt n0 p s w->s.nest=k->Calls prog f [ptr p].toArray w (End (IM n0 p ty s w) (IL n0 p ty s w))
theorem F8:Be n0 p 117 .bool k:=by
 intro s w h hk;refine AE 12 func117 V V V ?_;refine Ac (Ab (Ah V V (Ag (Ac (Ab (Aa V V (Af call115 V V (OW h) ?_ ?_)))))));rotate_left
 ·rintro ch w1 ⟨rfl,hno,h1,f1⟩ a ha;refine Ap (A8 ha ⟨rfl,λt=>?_,s,h1,f1,Ay _⟩);cases t<;>simp only[AU];rename_i b;exact hno _ (by cases b<;>decide)
 rintro _ w1 ⟨n,s',hn,he,rfl,h1,f1,hv1⟩;refine Ah V V (Ag ?_);refine Ac (Ac (Ab (Aa V V (Al V V (D2 (c:=decide (1<n)) (BM.2 (by omega))) V (Ag ?_)))));refine AN V (λht=>Ab (HY V V (λa ha=>?_) V V)) (λhf=>AG λa ha=>Ak ?_)
 ·have hlt:=B7 ht;refine Ap (A8 ha ⟨rfl,λt=>?_,s',h1,f1,Hg (FB he).1.symm⟩);cases t<;>simp only[AU];rename_i b;cases hb:s.eat b.toNat with
  |none=>rfl
  |some s''=>
   have:=(FJ he hb).1;have:b.toNat<=1:=by cases b<;>decide
   omega
 ·have hle:¬1<n:=B2 hf;refine A6 ha (Ac (Ab (Aa V V (Al V V (E0 (c:=decide (n=1)) (BM.2 (by omega))) V ?_))));refine Ah V V (Ag (AJ λa ha=>Ch V ha V ⟨.bool (decide (n=1)),s',[.bool (decide (n=1))],?_,rfl,?_,h1,f1,(FB he).1⟩))
  ·simp only[AU];have:(decide (n=1)).toNat=n:=by
    by_cases h:n=1
    ·subst h;rfl
    ·have:n=0:=by omega
     subst this;rfl
   rw[this];exact he
  ·simp only[Rep]
def JA(n:Nat):Int:=if n%2=0 then(n/2:Nat)else-((n/2:Nat):Int)-1
theorem Awe(h:n<18446744073709551616):C2 (JA n)=n/\AP (JA n):=by
 unfold C2 JA AP;split<;>constructor<;>(try split)<;>omega
theorem Atw(h:n<18446744073709551616):(binOp .xor t (.int .i64 ((n/2:Nat):Int)) (.int .i64 (0-((n%2:Nat):Int)))).run prog w= .ok (.int .i64 (JA n)) w:=by
 show Result.ok (Value.int .i64 (IntKind.i64.wrap ((BitVec.ofInt 64 ((n/2:Nat):Int) ^^^ BitVec.ofInt 64 (0-((n%2:Nat):Int))).toNat:Nat))) w=_;have key:IntKind.i64.wrap ((BitVec.ofInt 64 ((n/2:Nat):Int) ^^^ BitVec.ofInt 64 (0-((n%2:Nat):Int))).toNat:Nat)=JA n:=by
  have h2:(BitVec.ofInt 64 ((n/2:Nat):Int)).toNat=n/2:=N2 (by omega);unfold JA;rcases Nat.mod_two_eq_zero_or_one n with h0|h0
  ·rw[h0,if_pos rfl];have:BitVec.ofInt 64 (0-((0:Nat):Int))=0#64:=by decide
   rw[this,Ol,h2,CS (by unfold AP;omega)]
  ·rw[h0,if_neg (by decide)];have:BitVec.ofInt 64 (0-((1:Nat):Int))=BitVec.allOnes 64:=by decide
   rw[this,BitVec.xor_allOnes,BitVec.toNat_not,h2];rw[show(2 ^ 64-1-n/2:Nat)=18446744073709551615-n/2 by simp];simp only[IntKind.wrap,IntKind.bits,IntKind.signed,Rf];rw[if_pos (by simp;omega)];omega
 rw[key]
theorem Dv:Be n0 p 118 .int k:=by
 intro s w h hk;refine AE 14 func118 V V V ?_;refine Ac (Ab (Ah V V (Ag (Ac (Ab (Aa V V (Af call115 V V (OW h) ?_ ?_)))))));rotate_left
 ·rintro ch w1 ⟨rfl,hno,h1,f1⟩ a ha;refine Ap (A8 ha ⟨rfl,λt=>?_,s,h1,f1,Ay _⟩);cases t<;>simp only[AU];split
  ·exact hno _ (G_ _)
  ·rfl
 rintro _ w1 ⟨n,s',hn,he,rfl,h1,f1,hv1⟩;refine Ah V V (Ag ?_);obtain⟨hz,hi⟩:=Awe hn;refine Ac (Ab (Aa V V (Al V V (Q9 (d:=1) V V) V (BH V (De runUnderlying164 runUnderlying3) V ?_))));rw[CS (by unfold AP;omega),show n/2 ^ 1=n/2 by simp];refine Aa V V (Al V V (As9 hn) V (BH V (De runUnderlying164 runUnderlying3) V ?_));rw[CS (by unfold AP;omega)];refine OK V (v:=.int .i64 (0-((n%2:Nat):Int))) ?_ V (Al V V (Atw hn) V ?_)
 ·show Result.ok (Value.int .i64 (IntKind.i64.wrap (0-((n%2:Nat):Int)))) w1=_;rw[CS (by unfold AP;omega)]
 refine Ah V V (Ag (AJ λa ha=>Ch V ha V ⟨.int (JA n),s',[.int .i64 (JA n)],?_,rfl,?_,h1,f1,(FB he).1⟩))
 ·simp only[AU,if_pos ((Aaa _).1 hi),hz,he]
 ·simp only[Rep];exact⟨trivial,hi⟩
variable{x:Operand}{d:Nat}{Q:Exit->Act->World->Prop}
theorem Aei{ops:Array Oper}{rest:List Oper}{ds:List Deferred}{m:Env}{ty:TypeId}{pos:String}{aft:Array Edge}
 {y:Operand}{ats:Array TypeId}{i j:Int} (hx:ev m x=some (.int .i64 i)) (hy:ev m y=some (.int .i64 j)) (hb:Nat.blt d n=true)
 (h:WL P ops Q rest n ds ((d,.int .i64 (if j>i then j else i))::m) w):WL P ops Q (⟨some d,.call {callee:=.builtin .max,args:=#[x,y],argTypes:=ats},ty,pos,aft,none⟩::rest) n ds m w:=
 CY rfl rfl hb (λa ha=>by simp[execOp,resolve,invoke,builtin,ha.eval hx,ha.eval hy,Builtin.max_,Builtin.max2]) h
theorem ZR{t e:Nat}{agg:Bool}{o len cap:Nat}{k:IntKind}(ht:P.underlying t=some (.slice e))(he:AC P e agg n)(h1:i<len):
 (Instr.indexAt t (.slice (some ⟨b,o,none⟩) len cap) (.int k (i:Int))).run P w= .ok (.pointer (some ⟨b,o+i*n,none⟩)) w:=by
 have h0:(0:Int)<=(i:Int):=by omega
 have h2:(i:Int)<(len:Int):=by omega
 simp[Instr.indexAt,asIntOf,run_underlying ht,h1,he.size,Addr.add_lit]
theorem Aue(a b c d:Value)(cs:List Value):Ci (a::b::c::cs) 2 [d]=a::b::d::cs:=by simp[Ci]
theorem RSt.setUsed(h:RSt n0 p s w)(hk:k<=s.tab.length):∃w',(storeVar 3 ⟨p,2,none⟩ (.int .i64 k)).run prog w= .ok () w'/\Fr (only p) w (only p) w'/\RSt n0 p {s with used:=k} w':=by
 obtain⟨vb,vt,e0,e1,e2,e3,m⟩:=h.cells;have hst:=CG (P:=prog) (t:=3) (n:=1) (agg:=false) (b:=p) (o:=2) (v:=.int .i64 k) (vs:=[.int .i64 k]) Bo rfl rfl (by simp[Value.oneCell']) m.blk (by simp);rw[Aue]at hst;exact⟨_,hst,Fr.setRow _ V,h.set (s':={s with used:=k}) m m.bts m.nb V h.sb hk h.sn⟩
theorem RSt.setNest(h:RSt n0 p s w)(hk:k<=1001):∃w',(storeVar 3 ⟨p,3,none⟩ (.int .i64 k)).run prog w= .ok () w'/\Fr (only p) w (only p) w'/\RSt n0 p {s with nest:=k} w':=by
 obtain⟨vb,vt,e0,e1,e2,e3,m⟩:=h.cells;have hst:=CG (P:=prog) (t:=3) (n:=1) (agg:=false) (b:=p) (o:=3) (v:=.int .i64 k) (vs:=[.int .i64 k]) Bo rfl rfl (by simp[Value.oneCell']) m.blk (by simp);rw[Acr]at hst;exact⟨_,hst,Fr.setRow _ V,h.set (s':={s with nest:=k}) m m.bts m.nb V h.sb h.su hk⟩
theorem CN:Be n0 p 56 .str k:=by
 intro s w h hk;refine AE 43 func56 V V V ?_;refine Ac (Ab (Ah V V (Ag (Ac (Ab (Aa V V (Af call115 V V (OW h) ?_ ?_)))))));rotate_left
 ·rintro ch w1 ⟨rfl,hno,h1,f1⟩ a ha;refine Ap (A8 ha ⟨rfl,λt=>?_,s,h1,f1,Ay _⟩);cases t<;>simp only[AU];split
  ·rename_i i hi;have hil:=(Ka hi).1;have:=h.st;rw[hno i (by omega)];simp
  ·rfl
 rintro _ w1 ⟨n,s',hn,he,rfl,h1,f1,_⟩;obtain⟨hne,hta,hus⟩:=FB he;obtain⟨vb,vt,e0,e1,e2,e3,m⟩:=h1.cells;obtain⟨g,cap,rfl,hget⟩:=G2 m.row;have hsu:=h1.su;have hst:=h1.st;refine Ah V V (Ag ?_)
 --the string's place is in the table,and not beyond the first that has not occurred
 have bad:s'.used<n\/s'.tab.length<=n->E1 .str s:=by
  intro hb t;cases t<;>simp only[AU];rename_i x;cases hx:s.tab.findIdx? (λy=>decide (y=x))with
  |none=>rfl
  |some i=>
   simp only;split
   ·rename_i hle;cases hi:s.eat i with
    |none=>rfl
    |some s''=>
     have e:=(FJ he hi).1;have:=(Ka hx).1;rw[hus,hta]at hb;omega
   ·rfl
 refine CM (ι:=Nat) (λ_=>[(0,ptr p),(3,.int .u64 n)]) (λ_ w'=>w1=w'/\n<=s'.used/\n<s'.tab.length) ?_ ?_
 ·refine Ac (Ab (Aa V V (Aa V V (AR V V (Ad V (QP _ _ _) V (Ae V (Ai Bo e2) V (BH V (De runUnderlying3 runUnderlying164) V ?_)))))));rw[DH (by omega) (by omega)];by_cases hb1:s'.used<n
  ·refine Al V V (D2 (c:=true) (decide_eq_true (by omega)).symm) V (Aa V V ?_);iterate 8 refine Cz (j:=7) V V V V V ?_
   refine BW V V V (Ag (Ga V (Ab (HY V V (λa ha=>?_) V V))));exact Ap (A8 ha ⟨rfl,bad (.inl hb1),s',h1,f1,Hg hne.symm⟩)
  ·refine Al V V (D2 (c:=false) (decide_eq_false (by omega)).symm) V (Aa V V ?_);refine A9 (j:=7) V V V (Aa V V (A9 (j:=7) V V V (Aa V V (A9 (j:=7) V V V (AR V V (A9 (j:=7) V V V (Ad V (Oa _ _ _) V ?_)))))));refine A9 (j:=7) V V V (Ae V (Ai HI e1) V (A9 (j:=7) V V V (AI V (AM underlying44) V (A9 (j:=7) V V V (BH V (De runUnderlying3 runUnderlying164) V ?_)))));rw[DH (by omega) (by omega)];refine A9 (j:=7) V V V (Al V V (NJ (c:=decide (s'.tab.length<=n)) (BM.2 (by omega))) V (BW V V V (Ag ?_)));refine AN V (λht=>Ab (HY V V (λa ha=>?_) V V)) (λhf=>AG λa ha=>Ak ?_)
   ·exact Ap (A8 ha ⟨rfl,bad (.inr (B7 ht)),s',h1,f1,Hg hne.symm⟩)
   ·exact⟨0,ha.weak ⟨V,V,trivial⟩,rfl,by omega,by have:=B2 hf;omega⟩
 ·rintro _ _ ⟨rfl,hle,hlt⟩;obtain⟨x,hx⟩:∃x,s'.tab[n]? =some x:=⟨_,Bm hlt⟩;obtain⟨w2,hst2,f2,h2⟩:=h1.setUsed (k:=max s'.used (n+1)) (by omega);have hmax:(if((n+1:Nat):Int)>(s'.used:Int)then((n+1:Nat):Int)else(s'.used:Int))=((max s'.used (n+1):Nat):Int):=by
   split<;>omega
  refine Ac (Ab (Aa V V (Aa V V (AR V V (Ad V (QP _ _ _) V (Ae V (Ai Bo e2) V (Aa V V (BH V (De runUnderlying164 runUnderlying3) V ?_))))))));rw[CS (by unfold AP;omega)];refine Al V V (v:=.int .i64 ((n+1:Nat):Int)) ?_ V (Aei V V V ?_)
  ·exact congrArg (λv=>Result.ok v w1) (Cl (by omega))
  rw[hmax];refine AR V V (Ad V (QP _ _ _) V (An V V hst2 (Ag ?_)));obtain⟨vb2,vt2,d0,d1,d2,d3,m2⟩:=h2.cells;obtain⟨g2,cap2,rfl,hget2⟩:=G2 m2.row;obtain⟨b,rfl,hcell,_⟩:=hget2 n (.string x) (by simp[hx]);have hxs:=h1.tabs x (BA hx);refine Ac (Ab (Aa V V (AR V V (Ad V (Oa _ _ _) V (Ae V (Ai HI d1) V (Aa V V (AO V V (ZR underlying44 FT hlt) V ?_)))))));refine Ae V (Ai FT (by rw[BO,JJ];exact hcell)) V (Ah V V (Ag (AJ λa ha=>Ch V ha V ?_)));refine⟨.str x,{s' with used:=max s'.used (n+1)},[.string x],?_,rfl,?_,h2,f1.trans f2,hne⟩
  ·simp only[AU];have hf:s.tab.findIdx? (λy=>decide (y=x))=some n:=by rw[<-hta];exact QG h1.nodup hx
   rw[hf];simp only;rw[if_pos (by rw[<-hus];exact hle),he,KI,hus]
  ·simp only[Rep];exact⟨trivial,hxs⟩
theorem SR(h:RSt n0 p s w)(hk:s.nest<=1000):
 Calls prog 55 [ptr p].toArray w (End
  (λv w'=>¬1000<s.nest+1/\∃bx,v= .func (.func 116) #[] #[ptr bx]/\Blk w' bx [ptr p] 90/\w.heap.size<=bx/\Fr (only p) w (only p) w'/\RSt n0 p {s with nest:=s.nest+1} w')
  (λch w'=>ch=Eg/\1000<s.nest+1/\Fr (only p) w (only p) w'/\RSt n0 p {s with nest:=s.nest+1} w')):=by
 refine AE 18 func55 V V V ?_;have ty90:AC prog 90 false 1:=Aaf;refine Ac (Ab (Cy V V ?_));have a1:Blk (w.alloc (.cells [ptr p].toArray 90)) w.heap.size [ptr p] 90:=Cf;have f1:Fr (only p) w (only p) (w.alloc (.cells [ptr p].toArray 90)):=Fr.alloc _ _ _;have h1:=h.keep (Fr.alloc (λ_=>False) w (.cells [ptr p].toArray 90)) (λ_ h=>h.elim);show WL _ _ _ _ _ _ _ (w.alloc (.cells [ptr p].toArray 90));generalize w.alloc (.cells [ptr p].toArray 90)=w1 at a1 f1 h1⊢;obtain⟨vb,vt,e0,e1,e2,e3,m⟩:=h1.cells;obtain⟨w2,hst,f2,h2⟩:=h1.setNest (k:=s.nest+1) (by omega);refine Ah V V (Ag ?_);refine Ac (Ac (Ab (Ae V (Ai ty90 a1.cell0) V (AR V V (Ad V (Oc _ _ _) V (Ae V (Ai Bo e3) V (Al V V (v:=.int .i64 ((s.nest+1:Nat):Int)) ?_ V ?_)))))))
 ·exact congrArg (λv=>Result.ok v w1) (Cl (by omega))
 have hpl:=h.lp;have hln:=h.ln;have hne:w.heap.size≠p:=by omega
 have a2:Blk w2 w.heap.size [ptr p] 90:=(f2.blk _ a1.lt hne).trans a1;obtain⟨vb2,vt2,d0,d1,d2,d3,m2⟩:=h2.cells;refine AR V V (Ad V (Oc _ _ _) V (An V V hst (Ag ?_)));refine Ac (Ab (Ae V (Ai ty90 a2.cell0) V (AR V V (Ad V (Oc _ _ _) V (Ae V (Ai Bo d3) V (Al V V (D2 (c:=decide (1000<s.nest+1)) (BM.2 (by show _↔(1000:Int)<((s.nest+1:Nat):Int);omega))) V (Ag ?_)))))));refine AN V (λht=>Ab (HY V V (λa ha=>?_) V V)) (λhf=>AG λa ha=>Ak ?_)
 ·exact Ap (A8 ha ⟨rfl,B7 ht,f1.trans f2,h2⟩)
 ·refine A6 ha (Ac (Ab (Ba V V V (Ah V V (Ag (AJ λa ha=>Ch V ha V ⟨B2 hf,w.heap.size,rfl,a2,Ay _,f1.trans f2,h2⟩))))))
theorem YL{bx:Nat}{u:FrameMode}(h:RSt n0 p s w)(hb:Blk w bx [ptr p] 90)(h1:1<=s.nest):
 CallsD prog 116 [ptr bx].toArray u w λe u' w'=>u'=u/\(e= .returned (.tuple #[])/\Fr (only p) w (only p) w'/\RSt n0 p {s with nest:=s.nest-1} w'):=by
 refine Y9 (R:=λe w'=>e= .returned (.tuple #[])/\Fr (only p) w (only p) w'/\RSt n0 p {s with nest:=s.nest-1} w') 8 func116 V V V ?_;have ty90:AC prog 90 false 1:=Aaf;obtain⟨vb,vt,e0,e1,e2,e3,m⟩:=h.cells;have hsn:=h.sn;obtain⟨w2,hst,f2,h2⟩:=h.setNest (k:=s.nest-1) (by omega);refine Ab (Ae V (Ai ty90 hb.cell0) V (AR V V (Ad V (Oc _ _ _) V (Ae V (Ai Bo e3) V (Al V V (v:=.int .i64 ((s.nest-1:Nat):Int)) ?_ V ?_)))))
 ·show Result.ok (Value.int .i64 (IntKind.i64.wrap ((s.nest:Int)-1))) _=_;rw[CS (by unfold AP;omega),show(s.nest:Int)-1=((s.nest-1:Nat):Int)by omega]
 exact AR V V (Ad V (Oc _ _ _) V (An V V hst (A2 λa ha=>B9 V ha ⟨rfl,f2,h2⟩)))
end Go.Sx