import Derived.Test.YtdldhfocpandoaaGreatStA
import Derived.Deep.Quiet
import Derived.Test.YtdldhfocpandoaaGreatStB
set_option maxHeartbeats 8000000
set_option maxRecDepth 8000
namespace Go.Sx
def QL(P:Program)(ops:Array Oper)(C:World->Prop)(Q:Act->Prop)(l:List Oper)(n:Nat)(ds:List Deferred)(m:Env):Prop:=
 ∀a,Loc n ds m a->wpQuiet P ops C Q l a
section
variable{P:Program}{ops:Array Oper}{C:World->Prop}{Q:Act->Prop}{rest:List Oper}{n:Nat}{ds:List Deferred}{m:Env}{d:Nat}{ty:TypeId}{pos:String}{aft:Array Edge}
variable{w:World}
theorem Ms{id:Nat}{l:List Oper}{Q:Exit->Act->World->Prop}(C:World->Prop)(hm:P.follows .mixedOrders=true)(hB:Region.lexB .any l.toArray=true)(hC:C w.drew)
 (h:QL P l.toArray C (λa'=>∀w',C w'->Q .normal a' w') l n ds m):W P (.region id l.toArray true) Q n ds m w:=
 λa ha=>wp_region_quiet (C:=C) hm hB hC (by simpa using h a ha)
theorem KL(h:∀a,Loc n ds m a->Q a):QL P ops C Q [] n ds m:=λa ha=>h a ha
theorem OB{y:Code}{Q:Exit->Act->World->Prop}(h:∀w',C w'->W P y Q n ds m w'):QL P ops C (λa'=>∀w',C w'->Exit.then (y.wp P Q) Q .normal a' w') [] n ds m:=
 λa ha w' hw=>h w' hw a ha
variable{v:Value}
theorem GH{o:Oper}(hg:o.guard=none)(hd:o.dst=some d)(hb:Nat.blt d n=true)
 (hr:∀a w,Loc n ds m a->C w->(execOp a.eval o).run P w= .ok (.value v) w)
 (h:QL P ops C Q rest n ds ((d,v)::m)):QL P ops C Q (o::rest) n ds m:=by
 intro a ha;unfold wpQuiet;rw[if_pos (by simp[Region.wanted,hg])];refine⟨v,λw hw=>?_,?_⟩
 ·unfold Oper.quietAt;rw[hr a w ha hw];exact⟨rfl,rfl⟩
 ·rw[hd];exact h _ (ha.put d v hb)
theorem AZ{op:Op}{j:Nat}{want:Bool}{o':Oper}{dj:Nat}
 (hj:ops[j]? =some o') (hdj:o'.dst=some dj) (hv:m.get dj=some (.bool want))
 (h:QL P ops C Q (⟨some d,op,ty,pos,aft,none⟩::rest) n ds m):QL P ops C Q (⟨some d,op,ty,pos,aft,some (j,want)⟩::rest) n ds m:=by
 intro a ha;have h1:=h a ha;unfold wpQuiet at h1⊢;have hw:Region.wanted ⟨some d,op,ty,pos,aft,some (j,want)⟩ (yielded ops a.tmps)=true:=by
  simp[Region.wanted,yielded,hj,hdj,ha.slot dj _ hv]
 have hw':Region.wanted ⟨some d,op,ty,pos,aft,none⟩ (yielded ops a.tmps)=true:=by simp[Region.wanted]
 rw[if_pos hw];rw[if_pos hw']at h1;exact h1
theorem OC{op:Op}{j:Nat}{want:Bool}{o':Oper}{dj:Nat}{vj:Value}
 (hj:ops[j]? =some o') (hdj:o'.dst=some dj) (hv:m.get dj=some vj) (hn:Kc vj want=false) (hb:Nat.blt d n=true)
 (h:QL P ops C Q rest n ds ((d,undef)::m)):QL P ops C Q (⟨some d,op,ty,pos,aft,some (j,want)⟩::rest) n ds m:=by
 intro a ha;have h1:=h _ (ha.put d undef hb);unfold wpQuiet;have hw:Region.wanted ⟨some d,op,ty,pos,aft,some (j,want)⟩ (yielded ops a.tmps)=false:=by
  simp only[Region.wanted,yielded,hj,hdj,Cw,ha.slot dj _ hv];cases vj<;>simp_all[Kc]
 rw[hw];exact h1
variable{x:Operand}
theorem Dd(hx:ev m x=some v)(hb:Nat.blt d n=true)(h:QL P ops C Q rest n ds ((d,v)::m)):
 QL P ops C Q (⟨some d,.move x,ty,pos,aft,none⟩::rest) n ds m:=
 GH rfl rfl hb (λa w ha _=>by simp[execOp,ha.eval hx]) h
theorem Xx(hx:ev m x=some v)(hb:Nat.blt d n=true)(h:QL P ops C Q rest n ds ((d,v)::m)):
 QL P ops C Q (⟨some d,.assign x,ty,pos,aft,none⟩::rest) n ds m:=
 GH rfl rfl hb (λa w ha _=>by simp[execOp,ha.eval hx]) h
variable{y:Operand}
theorem GG{c:Operand}{b:Bool}(hc:ev m c=some (.bool b))(hx:(match b with|true=>ev m x|false=>ev m y)=some v)(hb:Nat.blt d n=true)
 (h:QL P ops C Q rest n ds ((d,v)::m)):QL P ops C Q (⟨some d,.pick c x y,ty,pos,aft,none⟩::rest) n ds m:=
 GH rfl rfl hb (λa w ha _=>by
  cases b
  ·simp[execOp,ha.eval hc,asBool,ha.eval hx]
  ·simp[execOp,ha.eval hc,asBool,ha.eval hx]) h
theorem Di{t:TypeId}{p:Addr}(hx:ev m x=some (.pointer (some p)))(hr:∀w,C w->(loadVar t p).run P w= .ok v w)(hb:Nat.blt d n=true)
 (h:QL P ops C Q rest n ds ((d,v)::m)):QL P ops C Q (⟨some d,.load t x,ty,pos,aft,none⟩::rest) n ds m:=
 GH rfl rfl hb (λa w ha hw=>by simp[execOp,ha.eval hx,Instr.loadAt,Instr.sureAddr,hr w hw]) h
theorem Fx{p:Addr}(hx:ev m x=some (.pointer (some p)))(hb:Nat.blt d n=true)
 (h:QL P ops C Q rest n ds ((d,.pointer (some p))::m)):QL P ops C Q (⟨some d,.nilCheck x,ty,pos,aft,none⟩::rest) n ds m:=
 GH rfl rfl hb (λa w ha _=>by simp[execOp,ha.eval hx]) h
theorem DF{s k:Nat}{p q:Addr}(hx:ev m x=some (.pointer (some p)))(hr:∀w,(Instr.fieldAt s (.pointer (some p)) k).run P w= .ok (.pointer (some q)) w)(hb:Nat.blt d n=true)
 (h:QL P ops C Q rest n ds ((d,.pointer (some q))::m)):QL P ops C Q (⟨some d,.fieldAddr s x k,ty,pos,aft,none⟩::rest) n ds m:=
 GH rfl rfl hb (λa w ha _=>by simp[execOp,ha.eval hx,hr w]) h
variable{vx:Value}
theorem KK{t:Nat}{vy:Value}(hx:ev m x=some vx)(hy:ev m y=some vy)(hr:∀w,(Instr.indexAt t vx vy).run P w= .ok v w)(hb:Nat.blt d n=true)
 (h:QL P ops C Q rest n ds ((d,v)::m)):QL P ops C Q (⟨some d,.indexAddr t x y,ty,pos,aft,none⟩::rest) n ds m:=
 GH rfl rfl hb (λa w ha _=>by simp[execOp,ha.eval hx,ha.eval hy,hr w]) h
theorem FX{op:BinOp}{t u:Nat}{k k':IntKind}{i j:Int}(hx:ev m x=some (.int k i))(hy:ev m y=some (.int k' j))
 (hr:∀w,(binOp op t (.int k i) (.int k' j)).run P w= .ok v w) (hb:Nat.blt d n=true)
 (h:QL P ops C Q rest n ds ((d,v)::m)):QL P ops C Q (⟨some d,.binOp op t x y u,ty,pos,aft,none⟩::rest) n ds m:=
 GH rfl rfl hb (λa w ha _=>by
  have he:eqGuard op t x y (.int k i) (.int k' j)=pure ():=by unfold eqGuard;cases op<;>rfl
  simp[execOp,ha.eval hx,ha.eval hy,he,hr w]) h
theorem Aeb{op:BinOp}{t u:Nat}{vy:Value}(hx:ev m x=some vx)(hy:ev m y=some vy)
 (hg:∀w,(eqGuard op t x y vx vy).run P w= .ok () w) (hr:∀w,(binOp op t vx vy).run P w= .ok v w) (hb:Nat.blt d n=true)
 (h:QL P ops C Q rest n ds ((d,v)::m)):QL P ops C Q (⟨some d,.binOp op t x y u,ty,pos,aft,none⟩::rest) n ds m:=
 GH rfl rfl hb (λa w ha _=>by simp[execOp,ha.eval hx,ha.eval hy,hg w,hr w]) h
theorem Aec{t:Nat}{b:Bool}(hx:ev m x=some (.bool b))(hb:Nat.blt d n=true)
 (h:QL P ops C Q rest n ds ((d,.bool (!b))::m)):QL P ops C Q (⟨some d,.unOp .not t x,ty,pos,aft,none⟩::rest) n ds m:=
 GH rfl rfl hb (λa w ha _=>by simp[execOp,ha.eval hx,Op.unary]) h
theorem OA{t:TypeId}(hx:ev m x=some vx)(hr:∀w,(Builtin.len_ #[t] ty #[vx]).run P w= .ok v w)(hb:Nat.blt d n=true)
 (h:QL P ops C Q rest n ds ((d,v)::m)):QL P ops C Q (⟨some d,.call {callee:=.builtin .len,args:=#[x],argTypes:=#[t]},ty,pos,aft,none⟩::rest) n ds m:=
 GH rfl rfl hb (λa w ha _=>by simp[execOp,resolve,invoke,builtin,ha.eval hx,hr w]) h
end
open Go.Proofs Go.Proofs.Tryz
theorem Acr(a b c d e:Value)(cs:List Value):Ci (a::b::c::d::cs) 3 [e]=a::b::c::e::cs:=by simp[Ci]
section
variable{w0:World}{S:Nat->Prop}{p most long:Nat}{s:WS}{O:Nat->Prop}{w:World}
theorem WSt.nestTo(h:WSt w0 S p most long s O w)(k:Nat):∃w',(storeVar 3 ⟨p,3,none⟩ (.int .i64 k)).run prog w= .ok () w'/\Fr O w O w'/\WSt w0 S p most long {s with nest:=k} O w':=by
 obtain⟨vb,vt,bm,m⟩:=h.mem;have hst:=CG (P:=prog) (t:=3) (n:=1) (agg:=false) (b:=p) (o:=3) (v:=.int .i64 k) (vs:=[.int .i64 k]) Bo rfl rfl (by simp[Value.oneCell']) m.blk (by simp);rw[Acr]at hst;have f:Fr O w O (w.setRow p [vb,vt,.map (some bm),.int .i64 k,.int .i64 most,.int .i64 long].toArray):=Fr.setRow _ m.op;have hoth:∀b,b≠p->(w.setRow p [vb,vt,.map (some bm),.int .i64 k,.int .i64 most,.int .i64 long].toArray).heap[b]? =w.heap[b]? :=λb hb=>setRow_other w p b _ hb;refine⟨_,hst,f,λb hb hl=>⟨(h.inp b hb hl).1,?_⟩,λb hb=>by simp only[E8];exact h.lt b hb,by simp only[E8];exact h.base,?_,h.tabs,h.nodup⟩
 ·rw[hoth b (λe=>(h.inp b hb hl).1 (e▸m.op))];exact(h.inp b hb hl).2
 ·exact⟨vb,vt,bm,m.blk.setRow _,Cn m.rb (λb hb=>hoth b (m.ob b hb).2.1),Cn m.rt (λb hb=>hoth b (m.ot b hb).2.1),m.mp.agree (hoth bm (λe=>m.pm e.symm)),m.op,m.om,m.ob,m.ot,m.pm⟩
theorem WSt.cells(h:WSt w0 S p most long s O w):∃vb,w.cell? ⟨p,0,none⟩=some vb/\w.cell? ⟨p,3,none⟩=some (.int .i64 s.nest)/\w.cell? ⟨p,4,none⟩=some (.int .i64 most)/\w.cell? ⟨p,5,none⟩=some (.int .i64 long)/\
 ∃g c,vb= .slice g s.b.length c:=by
 obtain⟨vb,vt,bm,m⟩:=h.mem;refine⟨vb,by rw[m.blk.cell];rfl,by rw[m.blk.cell];rfl,by rw[m.blk.cell];rfl,by rw[m.blk.cell];rfl,?_⟩;rcases m.rb.2 with⟨h1,h2⟩|⟨g,cap,cur,h1,_⟩
 ·exact⟨none,0,by rw[h1,h2]⟩
 ·exact⟨_,_,h1⟩
end
theorem LM:AC prog 183 false 1:=Aq0
theorem FS:prog.follows .mixedOrders=true:=by kernel_rfl
variable{w:World}{O:Nat->Prop}
theorem Fr.drewn(k:Nat):Fr O w O (w.drewN k):=⟨rfl,rfl,rfl,Ay _,λ_ _ _=>rfl,λ_ h=>.inl h⟩
theorem Wq:(Instr.build 89 #[]).run prog w= .ok (.agg #[]) w:=by
 simp[Instr.build,zeroValue89,runUnderlying89,Value.cells,Instr.fill]
theorem Ws:(Instr.makeInterface 89 (.agg #[])).run prog w= .ok (.iface 89 (.agg #[])) w:=by
 simp[Instr.makeInterface,runUnderlying89]
theorem Atc:(Instr.panic (.iface 89 (.agg #[])):Sem Value).run prog w= .halt (.panic (.iface 89 (.agg #[]))) w:=rfl
variable{Q:Exit->Act->World->Prop}
theorem HY{ops:Array Oper}{n:Nat}{ds:List Deferred}{m:Env}{d1 d2:Nat}{t1 t2 t3:TypeId}{p1 p2 p3:String}{a1 a2 a3:Array Edge}
 (hb1:Nat.blt d1 n=true) (hb2:Nat.blt d2 n=true) (h:∀a,Loc n ds m a->Q (.panic Eg) a w) (hk:m.get d1=none) (hk2:m.get d2=none):
 WL prog ops Q [⟨some d1,.build 89 #[],t1,p1,a1,none⟩,⟨some d2,.makeInterface 89 (.tmp d1),t2,p2,a2,none⟩,⟨none,.panic (.tmp d2),t3,p3,a3,none⟩] n ds m w:=by
 have e1:∀v,Env.get ((d1,v)::m) d1=some v:=λv=>by simp[Env.get,KG]
 have e2:∀u v,Env.get ((d2,u)::(d1,v)::m) d2=some u:=λu v=>by simp[Env.get,KG]
 refine EB V Wq hb1 (RV (x:=.tmp d1) (e1 _) Ws hb2 (Aej V V (x:=.tmp d2) (e2 _ _) Atc (λa ha=>h a ⟨ha.size,ha.defers,?_⟩)));intro i v hv;refine ha.slot i v ?_;have n1:Nat.beq d2 i=false:=by
  cases hb:Nat.beq d2 i with
  |false=>rfl
  |true=>rw[<-AH hb,hk2]at hv;cases hv
 have n2:Nat.beq d1 i=false:=by
  cases hb:Nat.beq d1 i with
  |false=>rfl
  |true=>rw[<-AH hb,hk]at hv;cases hv
 simp only[Env.get,n1,n2];exact hv
variable{s:WS}{long most p:Nat}{S:Nat->Prop}{w0:World}
theorem SK(hw:WSt w0 S p most long s O w)(hu:s.use<=2 ^ 40):
 Calls prog 150 [ptr p].toArray w (End
  (λv w'=>¬(most<s.nest+1\/long<s.b.length)/\∃bx O',v= .func (.func 205) #[] #[ptr bx]/\Own O' w' bx [ptr p] 183/\w.heap.size<=bx/\Fr O w O' w'/\WSt w0 S p most long {s with nest:=s.nest+1} O' w')
  (λch w'=>ch=Eg/\(most<s.nest+1\/long<s.b.length)/\∃O',Fr O w O' w'/\WSt w0 S p most long {s with nest:=s.nest+1} O' w')):=by
 have hun:s.nest<=2 ^ 40:=by simp only[WS.use]at hu;omega
 refine AE 34 func150 V V V ?_;refine Ac (Ab (Cy V V (Ah V V (Aj [(1,ptr w.heap.size),(2,.nilFunc)] ⟨V,V,trivial⟩ ?_))));have hw1:=hw.alloc (.cells [ptr p].toArray 183);have ho1:=hw.own_new [ptr p] 183;have f1:Fr O w O (w.alloc (.cells [ptr p].toArray 183)):=Fr.alloc _ _ _;show W _ _ _ _ _ _ (w.alloc (.cells [ptr p].toArray 183));generalize w.alloc (.cells [ptr p].toArray 183)=w1 at hw1 ho1 f1⊢;obtain⟨vb,hc0,hc3,hc4,hc5,g,cp,rfl⟩:=hw1.cells;have hbx:w1.cell? ⟨w.heap.size,0,none⟩=some (ptr p):=by rw[ho1.blk.cell];rfl
 obtain⟨w2,hst,f2,hw2⟩:=hw1.nestTo (s.nest+1);refine CM (ι:=Nat) (λ_=>[(1,ptr w.heap.size),(2,.nilFunc)]) (λk w'=>w'=w2.drewN k/\¬(most<s.nest+1\/long<s.b.length)) ?_ ?_
 ·refine Ac (Ab (Ae V (Ai LM hbx) V (AR V V (Ad V (MQ _ _ _) V (Ae V (Ai Bo hc3) V (Al V V (v:=.int .i64 ((s.nest+1:Nat):Int)) ?_ V ?_))))))
  ·show Result.ok (Value.int .i64 (IntKind.i64.wrap ((s.nest:Int)+1))) _=_;rw[CS (by unfold AP;omega)];rfl
  refine AR V V (Ad V (MQ _ _ _) V (An V V hst (Aj [(1,ptr w.heap.size),(2,.nilFunc)] ⟨V,V,trivial⟩ ?_)));have ho2:=f2.keep ho1;have hbx2:w2.cell? ⟨w.heap.size,0,none⟩=some (ptr p):=by rw[ho2.blk.cell];rfl
  have hcl:=hw2.cells;simp only at hcl;obtain⟨vb2,d0,d3,d4,d5,g2,cp2,rfl⟩:=hcl;have LD:∀(t:TypeId) (o b:Nat) (v:Value),AC prog t false 1->w2.cell? ⟨b,o,none⟩=some v->∀w',(∃k,w'=w2.drewN k)->(loadVar t ⟨b,o,none⟩).run prog w'= .ok v w':=by
   rintro t o b v ht hc w' ⟨k,rfl⟩;exact Ai ht (by simpa using hc)
  obtain⟨b1,hb1⟩:∃b1,b1=decide (most<s.nest+1):=⟨_,rfl⟩;obtain⟨b2,hb2⟩:∃b2,b2=decide (long<s.b.length):=⟨_,rfl⟩;refine CM (ι:=Nat) (λ_=>[(1,ptr w.heap.size),(2,.nilFunc),(30,.bool (b1||b2))]) (λk w'=>w'=w2.drewN k) (Ms (λw'=>∃k,w'=w2.drewN k) FS (by kernel_rfl) ⟨1,rfl⟩ ?_) ?_;rotate_left
  ·rintro k w' rfl;obtain⟨b,hb⟩:∃b,b=(b1||b2):=⟨_,rfl⟩;rw[<-hb];refine AN V (λht=>Ab (HY V V (λa ha=>?_) V V)) (λhf=>AG λa ha=>?_)
   ·refine Ap (A8 ha ⟨rfl,?_,O,f1.trans (f2.trans (Fr.drewn k)),hw2.other (Fr.drewn (O:=λ_=>False) k) (λ_ h=>h.elim)⟩);rw[ht]at hb;simp only[hb1,hb2]at hb;rcases(HM _ _▸hb.symm:_\/_)with h|h
    ·exact .inl (B7 h)
    ·exact .inr (B7 h)
   ·refine Ak ⟨k,ha.weak ⟨V,V,trivial⟩,rfl,?_⟩;rw[hf]at hb;simp only[hb1,hb2]at hb;have:=(Re).1 hb.symm;exactλh=>h.elim (B2 this.1) (B2 this.2)
  refine Di V (LD 183 0 _ _ LM hbx2) V (Fx V V (DF V (λ_=>MQ _ _ _) V (Di V (LD 3 3 _ _ Bo d3) V ?_)));refine Di V (LD 183 0 _ _ LM hbx2) V (Fx V V (DF V (λ_=>Anq _ _ _) V (Di V (LD 3 4 _ _ Bo d4) V ?_)));refine FX V V (v:=.bool b1) (λ_=>D2 (hb1.trans (BM.2 (by omega)))) V (Dd V V ?_);cases b1 with
  |true=>
   iterate 10 refine OC (j:=9) V V V V V ?_
   exact GG V V V (KL λa ha w' hw'=>Ak (hw'.elim λk hk=>⟨k,ha.weak ⟨V,V,V,trivial⟩,hk⟩))
  |false=>
   refine AZ (j:=9) V V V (Di V (LD 183 0 _ _ LM hbx2) V (AZ (j:=9) V V V (Fx V V (AZ (j:=9) V V V (DF V (λ_=>Fj _ _ _) V (AZ (j:=9) V V V (Di V (LD 22 0 _ _ C_ d0) V ?_)))))));refine AZ (j:=9) V V V (OA V (λ_=>AM underlying22) V ?_);refine AZ (j:=9) V V V (Di V (LD 183 0 _ _ LM hbx2) V (AZ (j:=9) V V V (Fx V V (AZ (j:=9) V V V (DF V (λ_=>Anr _ _ _) V (AZ (j:=9) V V V (Di V (LD 3 5 _ _ Bo d5) V ?_)))))));refine AZ (j:=9) V V V (FX V V (v:=.bool b2) (λ_=>D2 (hb2.trans (BM.2 (by omega)))) V ?_);exact GG V V V (KL λa ha w' hw'=>Ak (hw'.elim λk hk=>⟨k,ha.weak ⟨rfl,rfl,by simp[Env.get],trivial⟩,hk⟩))
 ·rintro k w' ⟨rfl,hno⟩;refine Ac (Ab (Ba V V V (Ah V V (Ag (AJ λa ha=>Ch V ha V ⟨hno,w.heap.size,O,rfl,(f2.trans (Fr.drewn k)).keep ho1,Ay _,f1.trans (f2.trans (Fr.drewn k)),hw2.other (Fr.drewn (O:=λ_=>False) k) (λ_ h=>h.elim)⟩)))))
variable{bx:Nat}
theorem YM{u:FrameMode}(hw:WSt w0 S p most long s O w)(ho:Own O w bx [ptr p] 183)(h1:1<=s.nest)(h2:s.nest<=2 ^ 41):
 CallsD prog 205 [ptr bx].toArray u w λe u' w'=>u'=u/\(e= .returned (.tuple #[])/\Fr O w O w'/\WSt w0 S p most long {s with nest:=s.nest-1} O w'):=by
 refine Y9 (R:=λe w'=>e= .returned (.tuple #[])/\Fr O w O w'/\WSt w0 S p most long {s with nest:=s.nest-1} O w') 8 func205 V V V ?_;have hbx:w.cell? ⟨bx,0,none⟩=some (ptr p):=by rw[ho.blk.cell];rfl
 obtain⟨vb,hc0,hc3,hc4,hc5,g,cp,rfl⟩:=hw.cells;obtain⟨w2,hst,f2,hw2⟩:=hw.nestTo (s.nest-1);refine Ab (Ae V (Ai LM hbx) V (AR V V (Ad V (MQ _ _ _) V (Ae V (Ai Bo hc3) V (Al V V (v:=.int .i64 ((s.nest-1:Nat):Int)) ?_ V ?_)))))
 ·show Result.ok (Value.int .i64 (IntKind.i64.wrap ((s.nest:Int)-1))) _=_;rw[CS (by unfold AP;omega),show(s.nest:Int)-1=((s.nest-1:Nat):Int)by omega]
 exact AR V V (Ad V (MQ _ _ _) V (An V V hst (A2 λa ha=>B9 V ha ⟨rfl,f2,hw2⟩)))
def Pl(bx:Nat):Deferred:={target:=.fn (.func 205) #[ptr bx],args:=#[]++#[]}
variable{Sx:List PanicEntry->World->Prop}{R:Value->World->Prop}{fn:Func}
theorem Aq7{tmps:Array Value}
 (hres:fn.results=#[]) (hw:WSt w0 S p most long s O w) (ho:Own O w bx [ptr p] 183) (h1:1<=s.nest) (h2:s.nest<=2 ^ 41)
 (h:∀w',Fr O w O w'->WSt w0 S p most long {s with nest:=s.nest-1} O w'->R (.tuple #[]) w'):Leaves prog fn tmps (End R Sx) [Pl bx] .returning w:=by
 refine leaves_cons (f:=205) (args:=[ptr bx].toArray) (by simp) (by simp[invoke,call205]) ((YM hw ho h1 h2).mono ?_);rintro e u' w' ⟨rfl,rfl,f,hw'⟩;exact⟨_,results_none hres _ _ _,h w' f hw'⟩
theorem Aq6{tmps:Array Value}
 (hw:WSt w0 S p most long s O w) (ho:Own O w bx [ptr p] 183) (h1:1<=s.nest) (h2:s.nest<=2 ^ 41)
 (h:∀w',Fr O w O w'->WSt w0 S p most long {s with nest:=s.nest-1} O w'->Sx Eg w'):Leaves prog fn tmps (End R Sx) [Pl bx] (.panicking Eg) w:=by
 refine leaves_cons (f:=205) (args:=[ptr bx].toArray) (by simp) (by simp[invoke,call205]) ((YM hw ho h1 h2).mono ?_);rintro e u' w' ⟨rfl,rfl,f,hw'⟩;exact h w' f hw'
section
variable{P:Program}{w:World}
variable{v1 v0 z:Value}{e:TypeId}
theorem J5{t:TypeId}(ht:P.underlying t=some (.slice e))(he:AC P e false 1)(hz:∀w,(zeroValue e).run P w= .ok z w)(hz1:z.cells.size=1)(h0:v0.cells=#[v0])(h1:v1.cells=#[v1]):
 (Instr.buildSlice t 2 #[(0,v0),(1,v1)]).run P w= .ok (.slice (some ⟨w.heap.size,0,none⟩) 2 2) (w.alloc (.cells [v0,v1].toArray e)):=by
 obtain⟨z0,hz0⟩:∃z0,z.cells=#[z0]:=Rc.mp hz1;have hr:Array.range 2=#[0,1]:=rfl;simp[Instr.buildSlice,run_underlying ht,he.size,hz,hz0,Instr.fill,h0,h1,newRow,hr]
theorem Acn{t:TypeId}{v2:Value}(ht:P.underlying t=some (.slice e))(he:AC P e false 1)(hz:∀w,(zeroValue e).run P w= .ok z w)(hz1:z.cells.size=1)(h0:v0.cells=#[v0])(h1:v1.cells=#[v1])(h2:v2.cells=#[v2]):
 (Instr.buildSlice t 3 #[(0,v0),(1,v1),(2,v2)]).run P w= .ok (.slice (some ⟨w.heap.size,0,none⟩) 3 3) (w.alloc (.cells [v0,v1,v2].toArray e)):=by
 obtain⟨z0,hz0⟩:∃z0,z.cells=#[z0]:=Rc.mp hz1;have hr:Array.range 3=#[0,1,2]:=rfl;simp[Instr.buildSlice,run_underlying ht,he.size,hz,hz0,Instr.fill,h0,h1,h2,newRow,hr]
theorem W4{t:TypeId}{v2 v3:Value}(ht:P.underlying t=some (.slice e))(he:AC P e false 1)(hz:∀w,(zeroValue e).run P w= .ok z w)(hz1:z.cells.size=1)(h0:v0.cells=#[v0])(h1:v1.cells=#[v1])(h2:v2.cells=#[v2])(h3:v3.cells=#[v3]):
 (Instr.buildSlice t 4 #[(0,v0),(1,v1),(2,v2),(3,v3)]).run P w= .ok (.slice (some ⟨w.heap.size,0,none⟩) 4 4) (w.alloc (.cells [v0,v1,v2,v3].toArray e)):=by
 obtain⟨z0,hz0⟩:∃z0,z.cells=#[z0]:=Rc.mp hz1;have hr:Array.range 4=#[0,1,2,3]:=rfl;simp[Instr.buildSlice,run_underlying ht,he.size,hz,hz0,Instr.fill,h0,h1,h2,h3,newRow,hr]
end
variable{v:Value}
theorem At.one{b o:Nat}(h:At w b o [v]):w.cell? ⟨b,o,none⟩=some v:=h 0 v rfl
theorem Own.cell1{b:Nat}{cs:List Value}{t:TypeId}{o:Nat}(h:Own O w b cs t)(hc:(cs.drop o).take 1=[v]):w.cell? ⟨b,o,none⟩=some v:=
 At.one (hc▸h.blk.at_ o 1)
variable{s1:WS}{t:T}{l:List T}
theorem Amx{s2:WS}(h:Bk most long l s=some s1)(h2:enc most long t s1=some s2):Bk most long (l++[t]) s=some s2:=by
 rw[FM,h,Cw,MK,h2]
variable{r:List T}
theorem YT(h:Bk most long l s=some s1)(h2:enc most long t s1=none):Bk most long (l++t::r) s=none:=by
 rw[FM,h,Cw,Bk,h2];rfl
variable{sn:SN}
theorem BN(h:sn.deep=false):enc most long (.agg sn l) s=Bk most long l s:=by simp only[enc,h]
theorem MJ(a:List T)(h:sn.deep=false):Bk most long (a++ .agg sn l::r) s=Bk most long (a++(l++r)) s:=by
 rw[FM,FM];congr 1;funext u;rw[FM,Bk,BN h]
variable{ns:List Int}
theorem YU(h:Bk most long l s=some s1):Bk most long (l++ns.map T.int) s=some (s1.nums (ns.map C2)):=by
 rw[FM,h,Cw];clear h;induction ns generalizing s1 with
 |nil=>rfl
 |cons n ns ih=>simp only[CA,Bk,enc,Cw];exact ih
theorem YS{ns:List Bool}(h:Bk most long l s=some s1):Bk most long (l++ns.map T.bool) s=some (s1.nums (ns.map Bool.toNat)):=by
 rw[FM,h,Cw];clear h;induction ns generalizing s1 with
 |nil=>rfl
 |cons n ns ih=>simp only[CA,Bk,enc,Cw];exact ih
theorem Amy(h:sn.deep=true)(hn:¬(most<s.nest+1\/long<s.b.length))(he:Bk most long l {s with nest:=s.nest+1}=some s1):
 enc most long (.agg sn l) s=some {s1 with nest:=s.nest}:=by simp only[enc,h,if_neg hn,he,KI]
theorem Amz(h:sn.deep=true)(he:Bk most long l {s with nest:=s.nest+1}=none):
 enc most long (.agg sn l) s=none:=by
 simp only[enc,h,he];split<;>rfl
theorem Tr(h:sn.deep=true)(hn:most<s.nest+1\/long<s.b.length):
 enc most long (.agg sn l) s=none:=by
 simp only[enc,h,if_pos hn]
theorem Dt(h:t∈l):t.wt<=Bf l:=by
 induction l with
 |nil=>cases h
 |cons x l ih=>
  simp only[Bf];rcases Ao.1 h with rfl|h
  ·omega
  ·have:=ih h;omega
theorem C7{f:Ty}{cs:List Value}(h:Rep w S t f cs)(hf:f.size=1):∃v,cs=[v]:=
 O0.1 ((Rep.one _ _ _ h).1.trans hf)
section
variable{P:Program}{fn:Func}{n:Nat}{m:Env}{w:World}{R:Value->World->Prop}{Sx:List PanicEntry->World->Prop}{a:Act}
variable{ch:List PanicEntry}
theorem L6(ha:Loc n [] m a)(h:Sx ch w):bodyPostD P fn (End R Sx) (.panic ch) a w:=by
 show Leaves P fn a.tmps (End R Sx) a.defers (.panicking ch) w;rw[ha.defers];exact h
theorem Bt{d:Deferred}(ha:Loc n [d] m a)(h:∀tmps,Leaves P fn tmps (End R Sx) [d] (.panicking ch) w):bodyPostD P fn (End R Sx) (.panic ch) a w:=by
 show Leaves P fn a.tmps (End R Sx) a.defers (.panicking ch) w;rw[ha.defers];exact h _
theorem Wa{d:Deferred}(ha:Loc n [d] m a)(h:∀tmps,Leaves P fn tmps (End R Sx) [d] .returning w):bodyPostD P fn (End R Sx) .normal a w:=by
 show Leaves P fn a.tmps (End R Sx) a.defers .returning w;rw[ha.defers];exact h _
end
theorem IN:∀(a b:List T),Bf (a++b)=Bf a+Bf b
 |[],b=>by simp[Bf]
 |x::a,b=>by simp only[CL,Bf,IN a b];omega
theorem Aeg(a:List T):Bf (a++(l++r))<=Bf (a++ .agg sn l::r):=by
 simp only[IN,Bf,T.wt];omega
theorem Dj:(T.agg sn l).wt=Bf l+1:=by simp only[T.wt]
theorem OG:(T.list l).wt=Bf l+1:=by simp only[T.wt]
theorem X7:(T.ptr t).wt=t.wt+1:=by simp only[T.wt]
variable{N:Nat}
theorem JD{all:List T}{i:Nat}(hN:(T.agg sn all).wt<=N)(hi:all[i]? =some (.list l))(h:t∈l):t.wt<N:=by
 have h1:=Dt h;have h2:=Dt (BA hi);rw[OG]at h2;rw[Dj]at hN;omega
theorem Avn{all:List T}{i:Nat}(hN:(T.agg sn all).wt<=N)(hi:all[i]? =some t):t.wt<N:=by
 have h2:=Dt (BA hi);rw[Dj]at hN;omega
structure Step(w0:World)(S:Nat->Prop)(p most long:Nat)(l r:List T)(s0:WS)(O:Nat->Prop)(w:World)(s':WS)(O':Nat->Prop)(w':World):Prop where
 st:WSt w0 S p most long s' O' w'
 fr:Fr O w O' w'
 en:Bk most long l s0=some s'
 bud:s'.use+11*Bf r<=2 ^ 40
 ne:s'.nest=s0.nest
section
variable{w0:World}{S:Nat->Prop}{p most long:Nat}{l r:List T}{t:T}{s0 s1 s2:WS}{O O1 O2:Nat->Prop}{w w1 w2:World}
theorem Step.hd(h:Step w0 S p most long l (t::r) s0 O w s1 O1 w1):s1.use+11*t.wt<=2 ^ 40:=by
 have:=h.bud;simp only[Bf]at this;omega
theorem Step.hdl{k:List T}(h:Step w0 S p most long l (.list k::r) s0 O w s1 O1 w1):s1.use+11*(Bf k+1)<=2 ^ 40:=by
 have:=h.hd;rw[OG]at this;exact this
theorem Step.hd1(h:Step w0 S p most long l (t::r) s0 O w s1 O1 w1):s1.use+11*1<=2 ^ 40:=by
 have:=h.hd;have:=t.wt_pos;omega
theorem Step.next(h:Step w0 S p most long l (t::r) s0 O w s1 O1 w1)(hs:enc most long t s1=some s2)(f:Fr O1 w1 O2 w2)(hw:WSt w0 S p most long s2 O2 w2):Step w0 S p most long (l++[t]) r s0 O w s2 O2 w2:=by
 have hu:=PB _ _ _ hs h.hd;have hb:=h.bud;simp only[Bf]at hb;exact⟨hw,h.fr.trans f,Amx h.en hs,by omega,hu.2.trans h.ne⟩
theorem QZ(ns:List Int):Bf (ns.map T.int)=ns.length:=by
 induction ns with
 |nil=>rfl
 |cons n ns ih=>simp only[CA,Bf,T.wt,ih,Cg];omega
theorem QY(ns:List Bool):Bf (ns.map T.bool)=ns.length:=by
 induction ns with
 |nil=>rfl
 |cons n ns ih=>simp only[CA,Bf,T.wt,ih,Cg];omega
theorem Step.hdi(h:Step w0 S p most long l (ns.map T.int++r) s0 O w s1 O1 w1):s1.use+11*ns.length<=2 ^ 40:=by
 have:=h.bud;rw[IN,QZ]at this;omega
theorem Step.hdb{ns:List Bool}(h:Step w0 S p most long l (ns.map T.bool++r) s0 O w s1 O1 w1):s1.use+11*ns.length<=2 ^ 40:=by
 have:=h.bud;rw[IN,QY]at this;omega
theorem Step.ints(h:Step w0 S p most long l (ns.map T.int++r) s0 O w s1 O1 w1)(f:Fr O1 w1 O2 w2)(hw:WSt w0 S p most long (s1.nums (ns.map C2)) O2 w2):Step w0 S p most long (l++ns.map T.int) r s0 O w (s1.nums (ns.map C2)) O2 w2:=by
 have he:Bk most long (ns.map T.int) s1=some (s1.nums (ns.map C2)):=by simpa using YU (l:=[]) (most:=most) (long:=long) (s:=s1) (s1:=s1) (ns:=ns) rfl
 have hu:=Gi _ _ _ he (by rw[QZ];exact h.hdi);have hb:=h.bud;rw[IN,QZ]at hb;rw[QZ]at hu;exact⟨hw,h.fr.trans f,YU h.en,by omega,hu.2.trans h.ne⟩
theorem Step.bools{ns:List Bool}(h:Step w0 S p most long l (ns.map T.bool++r) s0 O w s1 O1 w1)(f:Fr O1 w1 O2 w2)(hw:WSt w0 S p most long (s1.nums (ns.map Bool.toNat)) O2 w2):Step w0 S p most long (l++ns.map T.bool) r s0 O w (s1.nums (ns.map Bool.toNat)) O2 w2:=by
 have he:Bk most long (ns.map T.bool) s1=some (s1.nums (ns.map Bool.toNat)):=by simpa using YS (l:=[]) (most:=most) (long:=long) (s:=s1) (s1:=s1) (ns:=ns) rfl
 have hu:=Gi _ _ _ he (by rw[QY];exact h.hdb);have hb:=h.bud;rw[IN,QY]at hb;rw[QY]at hu;exact⟨hw,h.fr.trans f,YS h.en,by omega,hu.2.trans h.ne⟩
variable{ch:List PanicEntry}
theorem Step.pan(h:Step w0 S p most long l (t::r) s0 O w s1 O1 w1){res:Option WS}(hp:JN w0 S p most long O1 w1 (enc most long t s1) s1.nest ch w2)
 (he:Bk most long (l++t::r) s0=none->res=none):JN w0 S p most long O w res s0.nest ch w2:=by
 obtain⟨rfl,h1,s',O',f,hw,hn,hn2⟩:=hp;refine⟨rfl,he (YT h.en h1),s',O',h.fr.trans f,hw,?_,hn2⟩;have:=h.ne;omega
theorem Step.panD(h:Step w0 S p most long l (t::r) {s with nest:=s.nest+1} O w s1 O1 w1)(hx:Own O1 w1 bx [ptr p] 183)
 {la:List T} (hd:sn.deep=true) (hp:JN w0 S p most long O1 w1 (enc most long t s1) s1.nest ch w2)
 (he:Bk most long (l++t::r) {s with nest:=s.nest+1}=Bk most long la {s with nest:=s.nest+1}):
 ∀tmps,Leaves prog fn tmps (End R (JN w0 S p most long O w (enc most long (.agg sn la) s) s.nest)) [Pl bx] (.panicking ch) w2:=by
 intro tmps;obtain⟨rfl,h1,s',O',f,hw,hn,hn2⟩:=hp;have hne:=h.ne;simp only at hne;refine Aq6 hw (f.keep hx) (by omega) hn2 (λw' f' hw'=>⟨rfl,Amz hd (he.symm.trans (YT h.en h1)),_,_,h.fr.trans (f.trans f'),hw',?_,?_⟩)
 ·show s.nest<s'.nest-1;omega
 ·show s'.nest-1<=_;omega
theorem Step.endD(hres:fn.results=#[])(h:Step w0 S p most long l r {s with nest:=s.nest+1} O w s1 O1 w1)(hx:Own O1 w1 bx [ptr p] 183)
 {la:List T} (hd:sn.deep=true) (hn:¬(most<s.nest+1\/long<s.b.length)) (he:Bk most long l {s with nest:=s.nest+1}=Bk most long la {s with nest:=s.nest+1}):
 ∀tmps,Leaves prog fn tmps (End (RW w0 S p most long O w (enc most long (.agg sn la) s)) Sx) [Pl bx] .returning w1:=by
 intro tmps;have hne:=h.ne;have hus:=h.bud;simp only at hne;have h3:s1.nest<=2 ^ 40:=by
  have:s1.nest<=s1.use:=by simp only[WS.use];omega
  omega
 refine Aq7 hres h.st hx (by omega) (by omega) (λw' f' hw'=>⟨rfl,_,_,Amy hd hn (he.symm.trans h.en),h.fr.trans f',?_⟩);have:s1.nest-1=s.nest:=by omega
 rw[this]at hw';exact hw'
end
theorem JT{n:Int}(hn:AP n):Mt w0 S p most long 218 (.int .i64 n) (enc most long (.int n)) 1:=by
 have:enc most long (.int n)=λs=>some (s.num (C2 n)):=by funext s;simp only[enc]
 rw[this];exact Yy hn
theorem CZ{x:ByteArray}(hx:x.size<=maxLen):Mt w0 S p most long 151 (.string x) (enc most long (.str x)) 1:=by
 have:enc most long (.str x)=λs=>some (s.str x):=by funext s;simp only[enc]
 rw[this];exact Afi hx
theorem Avk(t:T):B0 w0 S p most long 218 .int t:=by
 intro cs hr;obtain⟨n,rfl,rfl,hn⟩:=hr.int_inv;exact JT hn
theorem WX(t:T):B0 w0 S p most long 151 .str t:=by
 intro cs hr;obtain⟨n,rfl,rfl,hn⟩:=hr.str_inv;intro s O w hw hu;exact CZ hn s O w hw (by simp only[T.wt]at hu;omega)
variable{b a:Int}
theorem Nj(ha:AP a)(hb:AP b):∀n∈[a,b],AP n:=by
 intro n hn;simp only[Ao,AB,or_false]at hn;rcases hn with rfl|rfl<;>assumption
theorem ZW{c:Int}(ha:AP a)(hb:AP b)(hc:AP c):∀n∈[a,b,c],AP n:=by
 intro n hn;simp only[Ao,AB,or_false]at hn;rcases hn with rfl|rfl|rfl<;>assumption
theorem Aqw{c d:Int}(ha:AP a)(hb:AP b)(hc:AP c)(hd:AP d):∀n∈[a,b,c,d],AP n:=by
 intro n hn;simp only[Ao,AB,or_false]at hn;rcases hn with rfl|rfl|rfl|rfl<;>assumption
theorem U5:Ax prog 59 0 0:=fA underlying59 rfl sizeOf3 rfl rfl
theorem U6:Ax prog 59 1 1:=fA underlying59 rfl sizeOf9 rfl rfl
theorem Zr:Ax prog 61 0 0:=fA underlying61 rfl sizeOf3 rfl rfl
theorem Zs:Ax prog 61 1 1:=fA underlying61 rfl sizeOf9 rfl rfl
theorem U7:Ax prog 63 0 0:=fA underlying63 rfl sizeOf3 rfl rfl
theorem U8:Ax prog 63 1 1:=fA underlying63 rfl sizeOf3 rfl rfl
theorem U9:Ax prog 63 2 2:=fA underlying63 rfl sizeOf61 rfl rfl
theorem U_:Ax prog 63 3 4:=fA underlying63 rfl sizeOf9 rfl rfl
theorem UA:Ax prog 66 0 0:=fA underlying66 rfl sizeOf3 rfl rfl
theorem UB:Ax prog 66 1 1:=fA underlying66 rfl sizeOf9 rfl rfl
theorem UC:Ax prog 66 2 2:=fA underlying66 rfl sizeOf9 rfl rfl
theorem UD:Ax prog 66 3 3:=fA underlying66 rfl sizeOf3 rfl rfl
theorem MY:Ax prog 66 4 4:=fA underlying66 rfl sizeOf59 rfl rfl
theorem UE:Ax prog 66 5 6:=fA underlying66 rfl sizeOf3 rfl rfl
theorem UF:Ax prog 66 6 7:=fA underlying66 rfl sizeOf61 rfl rfl
theorem UG:Ax prog 66 7 9:=fA underlying66 rfl sizeOf63 rfl rfl
theorem UH:Ax prog 66 8 14:=fA underlying66 rfl sizeOf44 rfl rfl
theorem UI:Ax prog 66 9 15:=fA underlying66 rfl sizeOf64 rfl rfl
theorem Us:Ax prog 282 0 0:=fA underlying282 rfl sizeOf9 rfl rfl
theorem Ut:Ax prog 282 1 1:=fA underlying282 rfl sizeOf4 rfl rfl
theorem Uu:Ax prog 282 2 2:=fA underlying282 rfl sizeOf66 rfl rfl
theorem Un:Ax prog 216 0 0:=fA underlying216 rfl sizeOf9 rfl rfl
theorem Uo:Ax prog 216 1 1:=fA underlying216 rfl sizeOf63 rfl rfl
theorem Up:Ax prog 216 2 6:=fA underlying216 rfl sizeOf4 rfl rfl
theorem Uq:Ax prog 216 3 7:=fA underlying216 rfl sizeOf66 rfl rfl
theorem Ur:Ax prog 216 4 23:=fA underlying216 rfl sizeOf56 rfl rfl
theorem Uv:Ax prog 286 0 0:=fA underlying286 rfl sizeOf66 rfl rfl
theorem Uw:Ax prog 286 1 16:=fA underlying286 rfl sizeOf4 rfl rfl
theorem Ux:Ax prog 286 2 17:=fA underlying286 rfl sizeOf4 rfl rfl
theorem Uy:Ax prog 286 3 18:=fA underlying286 rfl sizeOf9 rfl rfl
theorem Uz:Ax prog 290 0 0:=fA underlying290 rfl sizeOf66 rfl rfl
theorem U0:Ax prog 290 1 16:=fA underlying290 rfl sizeOf67 rfl rfl
theorem MV:Ax prog 294 0 0:=fA underlying294 rfl sizeOf262 rfl rfl
theorem U1:Ax prog 294 1 1:=fA underlying294 rfl sizeOf56 rfl rfl
theorem UJ:Ax prog 72 0 0:=fA underlying72 rfl sizeOf3 rfl rfl
theorem UK:Ax prog 72 1 1:=fA underlying72 rfl sizeOf9 rfl rfl
theorem UQ:Ax prog 72 2 2:=fA underlying72 rfl sizeOf9 rfl rfl
theorem UR:Ax prog 72 3 3:=fA underlying72 rfl sizeOf57 rfl rfl
theorem US:Ax prog 72 4 4:=fA underlying72 rfl sizeOf57 rfl rfl
theorem UT:Ax prog 72 5 5:=fA underlying72 rfl sizeOf4 rfl rfl
theorem UU:Ax prog 72 6 6:=fA underlying72 rfl sizeOf66 rfl rfl
theorem UV:Ax prog 72 7 22:=fA underlying72 rfl sizeOf66 rfl rfl
theorem UW:Ax prog 72 8 38:=fA underlying72 rfl sizeOf63 rfl rfl
theorem UX:Ax prog 72 9 43:=fA underlying72 rfl sizeOf67 rfl rfl
theorem UL:Ax prog 72 10 44:=fA underlying72 rfl sizeOf68 rfl rfl
theorem Lk:Ax prog 72 11 45:=fA underlying72 rfl sizeOf69 rfl rfl
theorem Jc:Ax prog 72 12 46:=fA underlying72 rfl sizeOf70 rfl rfl
theorem UM:Ax prog 72 13 47:=fA underlying72 rfl sizeOf56 rfl rfl
theorem UN:Ax prog 72 14 48:=fA underlying72 rfl sizeOf56 rfl rfl
theorem UO:Ax prog 72 15 49:=fA underlying72 rfl sizeOf3 rfl rfl
theorem UP:Ax prog 72 16 50:=fA underlying72 rfl sizeOf3 rfl rfl
theorem UY:Ax prog 74 0 0:=fA underlying74 rfl sizeOf64 rfl rfl
theorem UZ:Ax prog 74 1 1:=fA underlying74 rfl sizeOf9 rfl rfl
theorem Vc:Ax prog 74 2 2:=fA underlying74 rfl sizeOf44 rfl rfl
theorem Vd:Ax prog 74 3 3:=fA underlying74 rfl sizeOf4 rfl rfl
theorem Ve:Ax prog 74 4 4:=fA underlying74 rfl sizeOf9 rfl rfl
theorem Vf:Ax prog 74 5 5:=fA underlying74 rfl sizeOf68 rfl rfl
theorem Vg:Ax prog 74 6 6:=fA underlying74 rfl sizeOf56 rfl rfl
theorem Vh:Ax prog 74 7 7:=fA underlying74 rfl sizeOf9 rfl rfl
theorem Vi:Ax prog 74 8 8:=fA underlying74 rfl sizeOf3 rfl rfl
theorem Vj:Ax prog 74 9 9:=fA underlying74 rfl sizeOf3 rfl rfl
theorem Va:Ax prog 74 10 10:=fA underlying74 rfl sizeOf3 rfl rfl
theorem Vb:Ax prog 74 11 11:=fA underlying74 rfl sizeOf3 rfl rfl
theorem TH:Ax prog 140 0 0:=fA underlying140 rfl sizeOf9 rfl rfl
theorem TJ:Ax prog 140 1 1:=fA underlying140 rfl sizeOf68 rfl rfl
theorem TK:Ax prog 140 2 2:=fA underlying140 rfl sizeOf63 rfl rfl
theorem TL:Ax prog 140 3 7:=fA underlying140 rfl sizeOf66 rfl rfl
theorem TM:Ax prog 140 4 23:=fA underlying140 rfl sizeOf9 rfl rfl
theorem TN:Ax prog 140 5 24:=fA underlying140 rfl sizeOf3 rfl rfl
theorem TO:Ax prog 140 6 25:=fA underlying140 rfl sizeOf3 rfl rfl
theorem TP:Ax prog 140 7 26:=fA underlying140 rfl sizeOf3 rfl rfl
theorem TQ:Ax prog 144 0 0:=fA underlying144 rfl sizeOf9 rfl rfl
theorem TR:Ax prog 144 1 1:=fA underlying144 rfl sizeOf4 rfl rfl
theorem TS:Ax prog 144 2 2:=fA underlying144 rfl sizeOf63 rfl rfl
theorem TT:Ax prog 144 3 7:=fA underlying144 rfl sizeOf4 rfl rfl
theorem TU:Ax prog 144 4 8:=fA underlying144 rfl sizeOf66 rfl rfl
theorem TV:Ax prog 144 5 24:=fA underlying144 rfl sizeOf56 rfl rfl
theorem TW:Ax prog 144 6 25:=fA underlying144 rfl sizeOf9 rfl rfl
theorem TX:Ax prog 144 7 26:=fA underlying144 rfl sizeOf3 rfl rfl
theorem TY:Ax prog 144 8 27:=fA underlying144 rfl sizeOf3 rfl rfl
theorem TZ:Ax prog 144 9 28:=fA underlying144 rfl sizeOf3 rfl rfl
theorem Vk:Ax prog 76 0 0:=fA underlying76 rfl sizeOf9 rfl rfl
theorem Vl:Ax prog 76 1 1:=fA underlying76 rfl sizeOf64 rfl rfl
theorem Vm:Ax prog 76 2 2:=fA underlying76 rfl sizeOf66 rfl rfl
theorem Uk:Ax prog 182 0 0:=fA underlying182 rfl sizeOf64 rfl rfl
theorem Ul:Ax prog 182 1 1:=fA underlying182 rfl sizeOf4 rfl rfl
theorem Um:Ax prog 182 2 2:=fA underlying182 rfl sizeOf66 rfl rfl
theorem Ua:Ax prog 151 0 0:=fA underlying151 rfl sizeOf9 rfl rfl
theorem Ub:Ax prog 151 1 1:=fA underlying151 rfl sizeOf66 rfl rfl
theorem JX:Ax prog 151 2 17:=fA underlying151 rfl sizeOf149 rfl rfl
theorem Vn:Ax prog 84 0 0:=fA underlying84 rfl sizeOf9 rfl rfl
theorem PT:Ax prog 84 1 1:=fA underlying84 rfl sizeOf9 rfl rfl
theorem Vo:Ax prog 84 2 2:=fA underlying84 rfl sizeOf4 rfl rfl
theorem Vp:Ax prog 84 3 3:=fA underlying84 rfl sizeOf4 rfl rfl
theorem Vq:Ax prog 84 4 4:=fA underlying84 rfl sizeOf9 rfl rfl
theorem Vr:Ax prog 84 5 5:=fA underlying84 rfl sizeOf3 rfl rfl
theorem Uc:Ax prog 157 0 0:=fA underlying157 rfl sizeOf9 rfl rfl
theorem Ud:Ax prog 157 1 1:=fA underlying157 rfl sizeOf9 rfl rfl
theorem Ue:Ax prog 157 2 2:=fA underlying157 rfl sizeOf4 rfl rfl
theorem Uf:Ax prog 157 3 3:=fA underlying157 rfl sizeOf4 rfl rfl
theorem Ug:Ax prog 157 4 4:=fA underlying157 rfl sizeOf44 rfl rfl
theorem Ui:Ax prog 170 0 0:=fA underlying170 rfl sizeOf3 rfl rfl
theorem Uj:Ax prog 170 1 1:=fA underlying170 rfl sizeOf9 rfl rfl
theorem Uh:Ax prog 162 0 0:=fA underlying162 rfl sizeOf9 rfl rfl
theorem Lj:Ax prog 162 1 1:=fA underlying162 rfl sizeOf160 rfl rfl
theorem PS:Ax prog 48 0 0:=fA underlying48 rfl sizeOf9 rfl rfl
theorem GQ:Ax prog 48 1 1:=fA underlying48 rfl sizeOf46 rfl rfl
theorem MW:Ax prog 48 2 2:=fA underlying48 rfl sizeOf3 rfl rfl
theorem MX:Ax prog 48 3 3:=fA underlying48 rfl sizeOf3 rfl rfl
theorem PR:Ax prog 36 0 0:=fA underlying36 rfl sizeOf9 rfl rfl
theorem Fl:Ax prog 36 1 1:=fA underlying36 rfl sizeOf26 rfl rfl
theorem U2:Ax prog 36 2 2:=fA underlying36 rfl sizeOf27 rfl rfl
theorem U3:Ax prog 36 3 3:=fA underlying36 rfl sizeOf28 rfl rfl
theorem U4:Ax prog 36 4 4:=fA underlying36 rfl sizeOf29 rfl rfl
theorem JY:Ax prog 36 5 5:=fA underlying36 rfl sizeOf30 rfl rfl
theorem GP:Ax prog 36 6 6:=fA underlying36 rfl sizeOf31 rfl rfl
theorem Gl:Ax prog 36 7 7:=fA underlying36 rfl sizeOf32 rfl rfl
theorem In:Ax prog 36 8 8:=fA underlying36 rfl sizeOf33 rfl rfl
theorem Io:Ax prog 36 9 9:=fA underlying36 rfl sizeOf34 rfl rfl
theorem Yz(t:T):B0 w0 S p most long 246 (.st .test) t:=by
 intro cs hr s O w hw hu;obtain⟨l,rfl,hlen,hF⟩:=hr.st_inv;obtain⟨t0,l,rfl,r0,hF⟩:=hF.cons_inv;obtain⟨t1,l,rfl,r1,hF⟩:=hF.cons_inv;obtain rfl:=hF.nil_inv;simp only[Nat.reduceAdd,Ty.size]at r0 r1;obtain⟨n0,rfl,e0,i0⟩:=r0.int_inv;obtain⟨x1,rfl,e1,i1⟩:=r1.str_inv;rw[Dj]at hu;refine AE 12 func246 V V V ?_;refine Ac (Ab (Cy V V (Aj [(0,ptr p),(3,ptr w.heap.size)] ⟨V,V,trivial⟩ ?_)));have hb:=hw.own_new cs 61;have hw1:=hw.alloc (.cells cs.toArray 61);have fb:Fr O w O (w.alloc (.cells cs.toArray 61)):=Fr.alloc _ _ _;show W _ _ _ _ _ _ (w.alloc (.cells cs.toArray 61));generalize w.alloc (.cells cs.toArray 61)=w1 at hb hw1 fb⊢;have P0:Step w0 S p most long [] [.int n0,.str x1] s O w s O w1:=⟨hw1,fb,rfl,by omega,rfl⟩;refine Ac (Ab (Aa rfl rfl (Ad rfl (Zr _ _ _) rfl (Ae rfl (Ai AQ (hb.cell1 e0)) rfl (Af call218 rfl rfl (JT i0 _ _ _ P0.st P0.hd1) ?_ (λ_ _ h=>by obtain⟨_,h,_⟩:=h;simp only[enc]at h;cases h))))));rintro _ w' ⟨rfl,s',O',hs,f,hw'⟩;have P1:Step w0 S p most long [.int n0] [.str x1] s O w s' O' w':=P0.next hs f hw';replace hb:=f.keep hb;refine Aj [(0,ptr p),(3,ptr w.heap.size)] ⟨V,V,trivial⟩ ?_;refine Ab (Aa rfl rfl (Ad rfl (Zs _ _ _) rfl (Ae rfl (Ai AK (hb.cell1 e1)) rfl (Af call151 rfl rfl (CZ i1 _ _ _ P1.st P1.hd1) ?_ (λ_ _ h=>by obtain⟨_,h,_⟩:=h;simp only[enc]at h;cases h)))));rintro _ w' ⟨rfl,s',O',hs,f,hw'⟩;have P2:Step w0 S p most long [.int n0,.str x1] [] s O w s' O' w':=P1.next hs f hw';replace hb:=f.keep hb;exact A2 λa ha=>B9 V ha ⟨rfl,_,_,(BN V).trans P2.en,P2.fr,P2.st⟩
theorem MB(t:T):B0 w0 S p most long 215 (.st .type) t:=by
 intro cs hr s O w hw hu;obtain⟨l,rfl,hlen,hF⟩:=hr.st_inv;obtain⟨t0,l,rfl,r0,hF⟩:=hF.cons_inv;obtain⟨t1,l,rfl,r1,hF⟩:=hF.cons_inv;obtain⟨t2,l,rfl,r2,hF⟩:=hF.cons_inv;obtain⟨t3,l,rfl,r3,hF⟩:=hF.cons_inv;obtain rfl:=hF.nil_inv;simp only[Nat.reduceAdd,Ty.size,SN.size]at r0 r1 r2 r3;obtain⟨n0,rfl,e0,i0⟩:=r0.int_inv;obtain⟨n1,rfl,e1,i1⟩:=r1.int_inv;obtain⟨x3,rfl,e3,i3⟩:=r3.str_inv;rw[Dj]at hu;refine AE 19 func215 V V V ?_;refine Ac (Ab (Cy V V (Aj [(0,ptr p),(3,ptr w.heap.size)] ⟨V,V,trivial⟩ ?_)));have hb:=hw.own_new cs 63;have hw1:=hw.alloc (.cells cs.toArray 63);have fb:Fr O w O (w.alloc (.cells cs.toArray 63)):=Fr.alloc _ _ _;show W _ _ _ _ _ _ (w.alloc (.cells cs.toArray 63));generalize w.alloc (.cells cs.toArray 63)=w1 at hb hw1 fb⊢;have P0:Step w0 S p most long [] [.int n0,.int n1,t2,.str x3] s O w s O w1:=⟨hw1,fb,rfl,by omega,rfl⟩;refine Ac (Ab (Aa V V (Ad V (U7 _ _ _) V (Ae V (Ai AQ (hb.cell1 e0)) V (Ad V (U8 _ _ _) V (Ae V (Ai AQ (hb.cell1 e1)) V (BR V (J5 underlying262 Bo zeroValue3 V V V) V ?_)))))));refine Af call207 V V (IS (ns:=[n0,n1]) (Nj i0 i1) (P0.st.alloc _) (Step.hdi (ns:=[n0,n1]) P0) (P0.st.own_new _ 3)) ?_ Am;rintro _ w' ⟨rfl,O',f,hw'⟩;replace f:=(Fr.alloc _ _ _).trans f;have P1:Step w0 S p most long [.int n0,.int n1] [t2,.str x3] s O w _ O' w':=P0.ints (ns:=[n0,n1]) f hw';replace hb:=f.keep hb;refine Aj [(0,ptr p),(3,ptr w.heap.size)] ⟨V,V,trivial⟩ ?_;refine Ac (Ab (Aa V V (Ad V (U9 _ _ _) V (Ae V (AS Is (Rep.one _ _ _ r2).1 (hb.blk.at_ 2 2)) V (Af call246 V V (Yz _ _ r2 _ _ _ P1.st P1.hd) ?_ (λch w' h a ha=>Ap (A8 ha (P1.pan h (λe=>(BN V).trans e)))))))));rintro _ w' ⟨rfl,s',O',hs,f,hw'⟩;have P2:Step w0 S p most long [.int n0,.int n1,t2] [.str x3] s O w s' O' w':=P1.next hs f hw';replace hb:=f.keep hb;refine Aj [(0,ptr p),(3,ptr w.heap.size)] ⟨V,V,trivial⟩ ?_;refine Ab (Aa rfl rfl (Ad rfl (U_ _ _ _) rfl (Ae rfl (Ai AK (hb.cell1 e3)) rfl (Af call151 rfl rfl (CZ i3 _ _ _ P2.st P2.hd1) ?_ (λ_ _ h=>by obtain⟨_,h,_⟩:=h;simp only[enc]at h;cases h)))));rintro _ w' ⟨rfl,s',O',hs,f,hw'⟩;have P3:Step w0 S p most long [.int n0,.int n1,t2,.str x3] [] s O w s' O' w':=P2.next hs f hw';replace hb:=f.keep hb;exact A2 λa ha=>B9 V ha ⟨rfl,_,_,(BN V).trans P3.en,P3.fr,P3.st⟩
theorem Af6(ih:∀t',t'.wt<N->B0 w0 S p most long 209 (.st .expr) t')(t:T)(hN:t.wt<=N):B0 w0 S p most long 209 (.st .expr) t:=by
 intro cs hr s O w hw hu;obtain⟨l,rfl,hlen,hF⟩:=hr.st_inv;obtain⟨t0,l,rfl,r0,hF⟩:=hF.cons_inv;obtain⟨t1,l,rfl,r1,hF⟩:=hF.cons_inv;obtain⟨t2,l,rfl,r2,hF⟩:=hF.cons_inv;obtain⟨t3,l,rfl,r3,hF⟩:=hF.cons_inv;obtain⟨t4,l,rfl,r4,hF⟩:=hF.cons_inv;obtain⟨t5,l,rfl,r5,hF⟩:=hF.cons_inv;obtain⟨t6,l,rfl,r6,hF⟩:=hF.cons_inv;obtain⟨t7,l,rfl,r7,hF⟩:=hF.cons_inv;obtain⟨t8,l,rfl,r8,hF⟩:=hF.cons_inv;obtain⟨t9,l,rfl,r9,hF⟩:=hF.cons_inv;obtain rfl:=hF.nil_inv;simp only[Nat.reduceAdd,Ty.size,SN.size]at r0 r1 r2 r3 r4 r5 r6 r7 r8 r9;obtain⟨n0,rfl,e0,i0⟩:=r0.int_inv;obtain⟨x1,rfl,e1,i1⟩:=r1.str_inv;obtain⟨x2,rfl,e2,i2⟩:=r2.str_inv;obtain⟨n3,rfl,e3,i3⟩:=r3.int_inv;obtain⟨l,rfl,hlA,hA⟩:=r4.st_inv;obtain⟨tA,l,rfl,rA,hA⟩:=hA.cons_inv;obtain⟨tB,l,rfl,rB,hA⟩:=hA.cons_inv;obtain rfl:=hA.nil_inv;simp only[Nat.reduceAdd,Ty.size]at rA rB;rw[Amu _ _ _ _ _ (by decide)]at rA rB;obtain⟨nA,rfl,eA,iA⟩:=rA.int_inv;obtain⟨xB,rfl,eB,iB⟩:=rB.str_inv;obtain⟨n5,rfl,e5,i5⟩:=r5.int_inv;obtain⟨v8,e8⟩:=C7 r8 rfl;rw[e8]at r8;obtain⟨l8,rfl,_⟩:=r8.list_inv;obtain⟨v9,e9⟩:=C7 r9 rfl;rw[e9]at r9;obtain⟨l9,rfl,_⟩:=r9.list_inv;rw[Dj]at hu;replace hu:s.use+11*(Bf [.int n0,.str x1,.str x2,.int n3,.int nA,.str xB,.int n5,t6,t7,.list l8,.list l9]+1)<=2 ^ 40:=AX (Nat.add_le_add_left (IJ _ (Nat.add_le_add_right (Aeg (sn:=.atom) (l:=[.int nA,.str xB]) (r:=[.int n5,t6,t7,.list l8,.list l9]) [.int n0,.str x1,.str x2,.int n3]) 1)) _) hu;refine IU 55 func209 V V V ?_;refine Ac (Ab (Cy V V (Aj [(0,ptr p),(3,ptr w.heap.size)] ⟨V,V,trivial⟩ ?_)));have hb:=hw.own_new cs 66;have hw1:=hw.alloc (.cells cs.toArray 66);have fb:Fr O w O (w.alloc (.cells cs.toArray 66)):=Fr.alloc _ _ _;show W _ _ _ _ _ _ (w.alloc (.cells cs.toArray 66));generalize w.alloc (.cells cs.toArray 66)=w1 at hb hw1 fb⊢;refine Ac (Ab (Aa V V (Af call150 V V (SK hw1 (by omega)) ?_ ?_)));rotate_left
 ·rintro ch w2 ⟨rfl,ho,O2,f2,hw2⟩ a ha;exact Ap (L6 ha ⟨rfl,Tr V ho,_,O2,fb.trans f2,hw2,Cb _,by show s.nest+1<=_;simp only[WS.use]at hu;omega⟩)
 rintro _ w2 ⟨hno,bx,O2,rfl,hx,_,f2,hw2⟩;replace hb:=f2.keep hb;refine IP V (Aj [(0,ptr p),(3,ptr w.heap.size)] ⟨V,V,trivial⟩ ?_);have hu0:({s with nest:=s.nest+1}:WS).use=s.use+1:=by simp only[WS.use];omega
 have P0:Step w0 S p most long [] [.int n0,.str x1,.str x2,.int n3,.int nA,.str xB,.int n5,t6,t7,.list l8,.list l9] {s with nest:=s.nest+1} O w {s with nest:=s.nest+1} O2 w2:=⟨hw2,fb.trans f2,rfl,by rw[hu0];omega,rfl⟩;refine Ac (Ab (Aa rfl rfl (Ad rfl (UA _ _ _) rfl (Ae rfl (Ai AQ (hb.cell1 e0)) rfl (Af call218 rfl rfl (JT i0 _ _ _ P0.st P0.hd1) ?_ (λ_ _ h=>by obtain⟨_,h,_⟩:=h;simp only[enc]at h;cases h))))));rintro _ w' ⟨rfl,s',O',hs,f,hw'⟩;have P1:Step w0 S p most long [.int n0] [.str x1,.str x2,.int n3,.int nA,.str xB,.int n5,t6,t7,.list l8,.list l9] {s with nest:=s.nest+1} O w s' O' w':=P0.next hs f hw';replace hb:=f.keep hb;replace hx:=f.keep hx;refine Aj [(0,ptr p),(3,ptr w.heap.size)] ⟨V,V,trivial⟩ ?_;refine Ac (Ab (Aa rfl rfl (Ad rfl (UB _ _ _) rfl (Ae rfl (Ai AK (hb.cell1 e1)) rfl (Af call151 rfl rfl (CZ i1 _ _ _ P1.st P1.hd1) ?_ (λ_ _ h=>by obtain⟨_,h,_⟩:=h;simp only[enc]at h;cases h))))));rintro _ w' ⟨rfl,s',O',hs,f,hw'⟩;have P2:Step w0 S p most long [.int n0,.str x1] [.str x2,.int n3,.int nA,.str xB,.int n5,t6,t7,.list l8,.list l9] {s with nest:=s.nest+1} O w s' O' w':=P1.next hs f hw';replace hb:=f.keep hb;replace hx:=f.keep hx;refine Aj [(0,ptr p),(3,ptr w.heap.size)] ⟨V,V,trivial⟩ ?_;refine Ac (Ab (Aa rfl rfl (Ad rfl (UC _ _ _) rfl (Ae rfl (Ai AK (hb.cell1 e2)) rfl (Af call151 rfl rfl (CZ i2 _ _ _ P2.st P2.hd1) ?_ (λ_ _ h=>by obtain⟨_,h,_⟩:=h;simp only[enc]at h;cases h))))));rintro _ w' ⟨rfl,s',O',hs,f,hw'⟩;have P3:Step w0 S p most long [.int n0,.str x1,.str x2] [.int n3,.int nA,.str xB,.int n5,t6,t7,.list l8,.list l9] {s with nest:=s.nest+1} O w s' O' w':=P2.next hs f hw';replace hb:=f.keep hb;replace hx:=f.keep hx;refine Aj [(0,ptr p),(3,ptr w.heap.size)] ⟨V,V,trivial⟩ ?_;refine Ac (Ab (Aa V V (Ad V (UD _ _ _) V (Ae V (Ai AQ (hb.cell1 e3)) V (Ad V (MY _ _ _) V (Ad V (U5 _ _ _) V (Ae V (Ai AQ (hb.cell1 eA)) V (BR V (J5 underlying262 Bo zeroValue3 V V V) V ?_))))))));refine Af call207 V V (IS (ns:=[n3,nA]) (Nj i3 iA) (P3.st.alloc _) (Step.hdi (ns:=[n3,nA]) P3) (P3.st.own_new _ 3)) ?_ Am;rintro _ w' ⟨rfl,O',f,hw'⟩;replace f:=(Fr.alloc _ _ _).trans f;have P4:Step w0 S p most long [.int n0,.str x1,.str x2,.int n3,.int nA] [.str xB,.int n5,t6,t7,.list l8,.list l9] {s with nest:=s.nest+1} O w _ O' w':=P3.ints (ns:=[n3,nA]) f hw';replace hb:=f.keep hb;replace hx:=f.keep hx;refine Aj [(0,ptr p),(3,ptr w.heap.size)] ⟨V,V,trivial⟩ ?_;refine Ac (Ab (Aa rfl rfl (Ad rfl (MY _ _ _) rfl (Ad rfl (U6 _ _ _) rfl (Ae rfl (Ai AK (hb.cell1 eB)) rfl (Af call151 rfl rfl (CZ iB _ _ _ P4.st P4.hd1) ?_ (λ_ _ h=>by obtain⟨_,h,_⟩:=h;simp only[enc]at h;cases h)))))));rintro _ w' ⟨rfl,s',O',hs,f,hw'⟩;have P5:Step w0 S p most long [.int n0,.str x1,.str x2,.int n3,.int nA,.str xB] [.int n5,t6,t7,.list l8,.list l9] {s with nest:=s.nest+1} O w s' O' w':=P4.next hs f hw';replace hb:=f.keep hb;replace hx:=f.keep hx;refine Aj [(0,ptr p),(3,ptr w.heap.size)] ⟨V,V,trivial⟩ ?_;refine Ac (Ab (Aa rfl rfl (Ad rfl (UE _ _ _) rfl (Ae rfl (Ai AQ (hb.cell1 e5)) rfl (Af call218 rfl rfl (JT i5 _ _ _ P5.st P5.hd1) ?_ (λ_ _ h=>by obtain⟨_,h,_⟩:=h;simp only[enc]at h;cases h))))));rintro _ w' ⟨rfl,s',O',hs,f,hw'⟩;have P6:Step w0 S p most long [.int n0,.str x1,.str x2,.int n3,.int nA,.str xB,.int n5] [t6,t7,.list l8,.list l9] {s with nest:=s.nest+1} O w s' O' w':=P5.next hs f hw';replace hb:=f.keep hb;replace hx:=f.keep hx;refine Aj [(0,ptr p),(3,ptr w.heap.size)] ⟨V,V,trivial⟩ ?_;refine Ac (Ab (Aa V V (Ad V (UF _ _ _) V (Ae V (AS Is (Rep.one _ _ _ r6).1 (hb.blk.at_ 7 2)) V (Af call246 V V (Yz _ _ r6 _ _ _ P6.st P6.hd) ?_ (λch w' h a ha=>Ap (Bt ha (P6.panD hx V h (MJ (sn:=.atom) (l:=[.int nA,.str xB]) (r:=[.int n5,t6,t7,.list l8,.list l9]) [.int n0,.str x1,.str x2,.int n3] rfl).symm))))))));rintro _ w' ⟨rfl,s',O',hs,f,hw'⟩;have P7:Step w0 S p most long [.int n0,.str x1,.str x2,.int n3,.int nA,.str xB,.int n5,t6] [t7,.list l8,.list l9] {s with nest:=s.nest+1} O w s' O' w':=P6.next hs f hw';replace hb:=f.keep hb;replace hx:=f.keep hx;refine Aj [(0,ptr p),(3,ptr w.heap.size)] ⟨V,V,trivial⟩ ?_;refine Ac (Ab (Aa V V (Ad V (UG _ _ _) V (Ae V (AS Ex (Rep.one _ _ _ r7).1 (hb.blk.at_ 9 5)) V (Af call215 V V (MB _ _ r7 _ _ _ P7.st P7.hd) ?_ (λch w' h a ha=>Ap (Bt ha (P7.panD hx V h (MJ (sn:=.atom) (l:=[.int nA,.str xB]) (r:=[.int n5,t6,t7,.list l8,.list l9]) [.int n0,.str x1,.str x2,.int n3] rfl).symm))))))));rintro _ w' ⟨rfl,s',O',hs,f,hw'⟩;have P8:Step w0 S p most long [.int n0,.str x1,.str x2,.int n3,.int nA,.str xB,.int n5,t6,t7] [.list l8,.list l9] {s with nest:=s.nest+1} O w s' O' w':=P7.next hs f hw';replace hb:=f.keep hb;replace hx:=f.keep hx;refine Aj [(0,ptr p),(3,ptr w.heap.size)] ⟨V,V,trivial⟩ ?_;refine Ac (Ab (Aa V V (Ad V (UH _ _ _) V (Ae V (Ai Ei (hb.cell1 e8)) V (Aa V V (Ba V V V (Af call210 V V (SM (λt _=>WX t) _ r8 _ _ _ P8.st P8.hdl) ?_ (λch w' h a ha=>Ap (Bt ha (P8.panD hx V h (MJ (sn:=.atom) (l:=[.int nA,.str xB]) (r:=[.int n5,t6,t7,.list l8,.list l9]) [.int n0,.str x1,.str x2,.int n3] rfl).symm))))))))));rintro _ w' ⟨rfl,s',O',hs,f,hw'⟩;have P9:Step w0 S p most long [.int n0,.str x1,.str x2,.int n3,.int nA,.str xB,.int n5,t6,t7,.list l8] [.list l9] {s with nest:=s.nest+1} O w s' O' w':=P8.next hs f hw';replace hb:=f.keep hb;replace hx:=f.keep hx;refine Aj [(0,ptr p),(3,ptr w.heap.size)] ⟨V,V,trivial⟩ ?_;refine Ab (Aa V V (Ad V (UI _ _ _) V (Ae V (Ai FP (hb.cell1 e9)) V (Aa V V (Ba V V V (Af call208 V V (OZ (λt' ht=>ih t' (JD hN (i:=9) V ht)) _ r9 _ _ _ P9.st P9.hdl) ?_ (λch w' h a ha=>Bt ha (P9.panD hx V h (MJ (sn:=.atom) (l:=[.int nA,.str xB]) (r:=[.int n5,t6,t7,.list l8,.list l9]) [.int n0,.str x1,.str x2,.int n3] rfl).symm))))))));rintro _ w' ⟨rfl,s',O',hs,f,hw'⟩;have P10:Step w0 S p most long [.int n0,.str x1,.str x2,.int n3,.int nA,.str xB,.int n5,t6,t7,.list l8,.list l9] [] {s with nest:=s.nest+1} O w s' O' w':=P9.next hs f hw';replace hb:=f.keep hb;replace hx:=f.keep hx;exact A2 λa ha=>Wa ha (P10.endD V hx V hno (MJ (sn:=.atom) (l:=[.int nA,.str xB]) (r:=[.int n5,t6,t7,.list l8,.list l9]) [.int n0,.str x1,.str x2,.int n3] rfl).symm)
theorem FF(t:T):B0 w0 S p most long 209 (.st .expr) t:=by
 have key:∀(N:Nat) (t:T),t.wt<=N->B0 w0 S p most long 209 (.st .expr) t:=by
  intro N;induction N with
  |zero=>intro t h;have:=t.wt_pos;omega
  |succ N ih=>intro t h;exact Af6 (N:=N+1) (λt' h'=>ih t' (by omega)) t h
 exact key _ t (Ay _)
theorem Y1(t:T):B0 w0 S p most long 248 (.st .part) t:=by
 intro cs hr s O w hw hu;obtain⟨l,rfl,hlen,hF⟩:=hr.st_inv;obtain⟨t0,l,rfl,r0,hF⟩:=hF.cons_inv;obtain⟨t1,l,rfl,r1,hF⟩:=hF.cons_inv;obtain⟨t2,l,rfl,r2,hF⟩:=hF.cons_inv;obtain rfl:=hF.nil_inv;simp only[Nat.reduceAdd,Ty.size,SN.size]at r0 r1 r2;obtain⟨x0,rfl,e0,i0⟩:=r0.str_inv;obtain⟨b1,rfl,e1⟩:=r1.bool_inv;rw[Dj]at hu;refine AE 17 func248 V V V ?_;refine Ac (Ab (Cy V V (Aj [(0,ptr p),(3,ptr w.heap.size)] ⟨V,V,trivial⟩ ?_)));have hb:=hw.own_new cs 282;have hw1:=hw.alloc (.cells cs.toArray 282);have fb:Fr O w O (w.alloc (.cells cs.toArray 282)):=Fr.alloc _ _ _;show W _ _ _ _ _ _ (w.alloc (.cells cs.toArray 282));generalize w.alloc (.cells cs.toArray 282)=w1 at hb hw1 fb⊢;have P0:Step w0 S p most long [] [.str x0,.bool b1,t2] s O w s O w1:=⟨hw1,fb,rfl,by omega,rfl⟩;refine Ac (Ab (Aa rfl rfl (Ad rfl (Us _ _ _) rfl (Ae rfl (Ai AK (hb.cell1 e0)) rfl (Af call151 rfl rfl (CZ i0 _ _ _ P0.st P0.hd1) ?_ (λ_ _ h=>by obtain⟨_,h,_⟩:=h;simp only[enc]at h;cases h))))));rintro _ w' ⟨rfl,s',O',hs,f,hw'⟩;have P1:Step w0 S p most long [.str x0] [.bool b1,t2] s O w s' O' w':=P0.next hs f hw';replace hb:=f.keep hb;refine Aj [(0,ptr p),(3,ptr w.heap.size)] ⟨V,V,trivial⟩ ?_;refine Ac (Ab (Aa V V (Ad V (Ut _ _ _) V (Ae V (Ai Cm (hb.cell1 e1)) V (BR V (G5 underlying349 D4 zeroValue4 V V) V ?_)))));refine Af call206 V V (Gf (ns:=[b1]) (P1.st.alloc _) (Step.hdb (ns:=[b1]) P1) (P1.st.own_new _ 4)) ?_ Am;rintro _ w' ⟨rfl,O',f,hw'⟩;replace f:=(Fr.alloc _ _ _).trans f;have P2:Step w0 S p most long [.str x0,.bool b1] [t2] s O w _ O' w':=P1.bools (ns:=[b1]) f hw';replace hb:=f.keep hb;refine Aj [(0,ptr p),(3,ptr w.heap.size)] ⟨V,V,trivial⟩ ?_;refine Ab (Aa V V (Ad V (Uu _ _ _) V (Ae V (AS Cr (Rep.one _ _ _ r2).1 (hb.blk.at_ 2 16)) V (Af call209 V V (FF _ _ r2 _ _ _ P2.st P2.hd) ?_ (λch w' h a ha=>A8 ha (P2.pan h (λe=>(BN V).trans e)))))));rintro _ w' ⟨rfl,s',O',hs,f,hw'⟩;have P3:Step w0 S p most long [.str x0,.bool b1,t2] [] s O w s' O' w':=P2.next hs f hw';replace hb:=f.keep hb;exact A2 λa ha=>B9 V ha ⟨rfl,_,_,(BN V).trans P3.en,P3.fr,P3.st⟩
theorem Y3(t:T):B0 w0 S p most long 250 (.st .sort) t:=by
 intro cs hr s O w hw hu;obtain⟨l,rfl,hlen,hF⟩:=hr.st_inv;obtain⟨t0,l,rfl,r0,hF⟩:=hF.cons_inv;obtain⟨t1,l,rfl,r1,hF⟩:=hF.cons_inv;obtain⟨t2,l,rfl,r2,hF⟩:=hF.cons_inv;obtain⟨t3,l,rfl,r3,hF⟩:=hF.cons_inv;obtain rfl:=hF.nil_inv;simp only[Nat.reduceAdd,Ty.size,SN.size]at r0 r1 r2 r3;obtain⟨b1,rfl,e1⟩:=r1.bool_inv;obtain⟨b2,rfl,e2⟩:=r2.bool_inv;obtain⟨x3,rfl,e3,i3⟩:=r3.str_inv;rw[Dj]at hu;refine AE 19 func250 V V V ?_;refine Ac (Ab (Cy V V (Aj [(0,ptr p),(3,ptr w.heap.size)] ⟨V,V,trivial⟩ ?_)));have hb:=hw.own_new cs 286;have hw1:=hw.alloc (.cells cs.toArray 286);have fb:Fr O w O (w.alloc (.cells cs.toArray 286)):=Fr.alloc _ _ _;show W _ _ _ _ _ _ (w.alloc (.cells cs.toArray 286));generalize w.alloc (.cells cs.toArray 286)=w1 at hb hw1 fb⊢;have P0:Step w0 S p most long [] [t0,.bool b1,.bool b2,.str x3] s O w s O w1:=⟨hw1,fb,rfl,by omega,rfl⟩;refine Ac (Ab (Aa V V (Ad V (Uv _ _ _) V (Ae V (AS Cr (Rep.one _ _ _ r0).1 (hb.blk.at_ 0 16)) V (Af call209 V V (FF _ _ r0 _ _ _ P0.st P0.hd) ?_ (λch w' h a ha=>Ap (A8 ha (P0.pan h (λe=>(BN V).trans e)))))))));rintro _ w' ⟨rfl,s',O',hs,f,hw'⟩;have P1:Step w0 S p most long [t0] [.bool b1,.bool b2,.str x3] s O w s' O' w':=P0.next hs f hw';replace hb:=f.keep hb;refine Aj [(0,ptr p),(3,ptr w.heap.size)] ⟨V,V,trivial⟩ ?_;refine Ac (Ab (Aa V V (Ad V (Uw _ _ _) V (Ae V (Ai Cm (hb.cell1 e1)) V (Ad V (Ux _ _ _) V (Ae V (Ai Cm (hb.cell1 e2)) V (BR V (J5 underlying349 D4 zeroValue4 V V V) V ?_)))))));refine Af call206 V V (Gf (ns:=[b1,b2]) (P1.st.alloc _) (Step.hdb (ns:=[b1,b2]) P1) (P1.st.own_new _ 4)) ?_ Am;rintro _ w' ⟨rfl,O',f,hw'⟩;replace f:=(Fr.alloc _ _ _).trans f;have P2:Step w0 S p most long [t0,.bool b1,.bool b2] [.str x3] s O w _ O' w':=P1.bools (ns:=[b1,b2]) f hw';replace hb:=f.keep hb;refine Aj [(0,ptr p),(3,ptr w.heap.size)] ⟨V,V,trivial⟩ ?_;refine Ab (Aa rfl rfl (Ad rfl (Uy _ _ _) rfl (Ae rfl (Ai AK (hb.cell1 e3)) rfl (Af call151 rfl rfl (CZ i3 _ _ _ P2.st P2.hd1) ?_ (λ_ _ h=>by obtain⟨_,h,_⟩:=h;simp only[enc]at h;cases h)))));rintro _ w' ⟨rfl,s',O',hs,f,hw'⟩;have P3:Step w0 S p most long [t0,.bool b1,.bool b2,.str x3] [] s O w s' O' w':=P2.next hs f hw';replace hb:=f.keep hb;exact A2 λa ha=>B9 V ha ⟨rfl,_,_,(BN V).trans P3.en,P3.fr,P3.st⟩
theorem Agd(t:T):B0 w0 S p most long 252 (.st .source) t:=by
 intro cs hr s O w hw hu;obtain⟨l,rfl,hlen,hF⟩:=hr.st_inv;obtain⟨t0,l,rfl,r0,hF⟩:=hF.cons_inv;obtain⟨t1,l,rfl,r1,hF⟩:=hF.cons_inv;obtain rfl:=hF.nil_inv;simp only[Nat.reduceAdd,Ty.size,SN.size]at r0 r1;obtain⟨v1,e1⟩:=C7 r1 rfl;rw[e1]at r1;obtain⟨l1,rfl,_⟩:=r1.list_inv;rw[Dj]at hu;refine AE 14 func252 V V V ?_;refine Ac (Ab (Cy V V (Aj [(0,ptr p),(3,ptr w.heap.size)] ⟨V,V,trivial⟩ ?_)));have hb:=hw.own_new cs 290;have hw1:=hw.alloc (.cells cs.toArray 290);have fb:Fr O w O (w.alloc (.cells cs.toArray 290)):=Fr.alloc _ _ _;show W _ _ _ _ _ _ (w.alloc (.cells cs.toArray 290));generalize w.alloc (.cells cs.toArray 290)=w1 at hb hw1 fb⊢;have P0:Step w0 S p most long [] [t0,.list l1] s O w s O w1:=⟨hw1,fb,rfl,by omega,rfl⟩;refine Ac (Ab (Aa V V (Ad V (Uz _ _ _) V (Ae V (AS Cr (Rep.one _ _ _ r0).1 (hb.blk.at_ 0 16)) V (Af call209 V V (FF _ _ r0 _ _ _ P0.st P0.hd) ?_ (λch w' h a ha=>Ap (A8 ha (P0.pan h (λe=>(BN V).trans e)))))))));rintro _ w' ⟨rfl,s',O',hs,f,hw'⟩;have P1:Step w0 S p most long [t0] [.list l1] s O w s' O' w':=P0.next hs f hw';replace hb:=f.keep hb;refine Aj [(0,ptr p),(3,ptr w.heap.size)] ⟨V,V,trivial⟩ ?_;refine Ab (Aa V V (Ad V (U0 _ _ _) V (Ae V (Ai Ki (hb.cell1 e1)) V (Aa V V (Ba V V V (Af call249 V V (Y2 (λt _=>Y3 t) _ r1 _ _ _ P1.st P1.hdl) ?_ (λch w' h a ha=>A8 ha (P1.pan h (λe=>(BN V).trans e)))))))));rintro _ w' ⟨rfl,s',O',hs,f,hw'⟩;have P2:Step w0 S p most long [t0,.list l1] [] s O w s' O' w':=P1.next hs f hw';replace hb:=f.keep hb;exact A2 λa ha=>B9 V ha ⟨rfl,_,_,(BN V).trans P2.en,P2.fr,P2.st⟩
theorem Yx(ih:∀t',t'.wt<N->B0 w0 S p most long 214 (.st .instr) t')(t:T)(hN:t.wt<=N):B0 w0 S p most long 212 (.st .param) t:=by
 intro cs hr s O w hw hu;obtain⟨l,rfl,hlen,hF⟩:=hr.st_inv;obtain⟨t0,l,rfl,r0,hF⟩:=hF.cons_inv;obtain⟨t1,l,rfl,r1,hF⟩:=hF.cons_inv;obtain⟨t2,l,rfl,r2,hF⟩:=hF.cons_inv;obtain⟨t3,l,rfl,r3,hF⟩:=hF.cons_inv;obtain⟨t4,l,rfl,r4,hF⟩:=hF.cons_inv;obtain rfl:=hF.nil_inv;simp only[Nat.reduceAdd,Ty.size,SN.size]at r0 r1 r2 r3 r4;obtain⟨x0,rfl,e0,i0⟩:=r0.str_inv;obtain⟨b2,rfl,e2⟩:=r2.bool_inv;obtain⟨v4,e4⟩:=C7 r4 rfl;rw[e4]at r4;obtain⟨l4,rfl,_⟩:=r4.list_inv;rw[Dj]at hu;refine AE 27 func212 V V V ?_;refine Ac (Ab (Cy V V (Aj [(0,ptr p),(3,ptr w.heap.size)] ⟨V,V,trivial⟩ ?_)));have hb:=hw.own_new cs 216;have hw1:=hw.alloc (.cells cs.toArray 216);have fb:Fr O w O (w.alloc (.cells cs.toArray 216)):=Fr.alloc _ _ _;show W _ _ _ _ _ _ (w.alloc (.cells cs.toArray 216));generalize w.alloc (.cells cs.toArray 216)=w1 at hb hw1 fb⊢;have P0:Step w0 S p most long [] [.str x0,t1,.bool b2,t3,.list l4] s O w s O w1:=⟨hw1,fb,rfl,by omega,rfl⟩;refine Ac (Ab (Aa rfl rfl (Ad rfl (Un _ _ _) rfl (Ae rfl (Ai AK (hb.cell1 e0)) rfl (Af call151 rfl rfl (CZ i0 _ _ _ P0.st P0.hd1) ?_ (λ_ _ h=>by obtain⟨_,h,_⟩:=h;simp only[enc]at h;cases h))))));rintro _ w' ⟨rfl,s',O',hs,f,hw'⟩;have P1:Step w0 S p most long [.str x0] [t1,.bool b2,t3,.list l4] s O w s' O' w':=P0.next hs f hw';replace hb:=f.keep hb;refine Aj [(0,ptr p),(3,ptr w.heap.size)] ⟨V,V,trivial⟩ ?_;refine Ac (Ab (Aa V V (Ad V (Uo _ _ _) V (Ae V (AS Ex (Rep.one _ _ _ r1).1 (hb.blk.at_ 1 5)) V (Af call215 V V (MB _ _ r1 _ _ _ P1.st P1.hd) ?_ (λch w' h a ha=>Ap (A8 ha (P1.pan h (λe=>(BN V).trans e)))))))));rintro _ w' ⟨rfl,s',O',hs,f,hw'⟩;have P2:Step w0 S p most long [.str x0,t1] [.bool b2,t3,.list l4] s O w s' O' w':=P1.next hs f hw';replace hb:=f.keep hb;refine Aj [(0,ptr p),(3,ptr w.heap.size)] ⟨V,V,trivial⟩ ?_;refine Ac (Ab (Aa V V (Ad V (Up _ _ _) V (Ae V (Ai Cm (hb.cell1 e2)) V (BR V (G5 underlying349 D4 zeroValue4 V V) V ?_)))));refine Af call206 V V (Gf (ns:=[b2]) (P2.st.alloc _) (Step.hdb (ns:=[b2]) P2) (P2.st.own_new _ 4)) ?_ Am;rintro _ w' ⟨rfl,O',f,hw'⟩;replace f:=(Fr.alloc _ _ _).trans f;have P3:Step w0 S p most long [.str x0,t1,.bool b2] [t3,.list l4] s O w _ O' w':=P2.bools (ns:=[b2]) f hw';replace hb:=f.keep hb;refine Aj [(0,ptr p),(3,ptr w.heap.size)] ⟨V,V,trivial⟩ ?_;refine Ac (Ab (Aa V V (Ad V (Uq _ _ _) V (Ae V (AS Cr (Rep.one _ _ _ r3).1 (hb.blk.at_ 7 16)) V (Af call209 V V (FF _ _ r3 _ _ _ P3.st P3.hd) ?_ (λch w' h a ha=>Ap (A8 ha (P3.pan h (λe=>(BN V).trans e)))))))));rintro _ w' ⟨rfl,s',O',hs,f,hw'⟩;have P4:Step w0 S p most long [.str x0,t1,.bool b2,t3] [.list l4] s O w s' O' w':=P3.next hs f hw';replace hb:=f.keep hb;refine Aj [(0,ptr p),(3,ptr w.heap.size)] ⟨V,V,trivial⟩ ?_;refine Ab (Aa V V (Ad V (Ur _ _ _) V (Ae V (Ai Ew (hb.cell1 e4)) V (Aa V V (Ba V V V (Af call213 V V (KZ (λt' ht=>ih t' (JD hN (i:=4) V ht)) _ r4 _ _ _ P4.st P4.hdl) ?_ (λch w' h a ha=>A8 ha (P4.pan h (λe=>(BN V).trans e)))))))));rintro _ w' ⟨rfl,s',O',hs,f,hw'⟩;have P5:Step w0 S p most long [.str x0,t1,.bool b2,t3,.list l4] [] s O w s' O' w':=P4.next hs f hw';replace hb:=f.keep hb;exact A2 λa ha=>B9 V ha ⟨rfl,_,_,(BN V).trans P5.en,P5.fr,P5.st⟩
theorem Agf(ih:∀t',t'.wt<N->B0 w0 S p most long 214 (.st .instr) t')(t:T)(hN:t.wt<=N):B0 w0 S p most long 254 (.st .ctch) t:=by
 intro cs hr s O w hw hu;obtain⟨l,rfl,hlen,hF⟩:=hr.st_inv;obtain⟨t0,l,rfl,r0,hF⟩:=hF.cons_inv;obtain⟨t1,l,rfl,r1,hF⟩:=hF.cons_inv;obtain rfl:=hF.nil_inv;simp only[Nat.reduceAdd,Ty.size]at r0 r1;obtain⟨v0,e0⟩:=C7 r0 rfl;rw[e0]at r0;obtain⟨l0,rfl,_⟩:=r0.list_inv;obtain⟨v1,e1⟩:=C7 r1 rfl;rw[e1]at r1;obtain⟨l1,rfl,_⟩:=r1.list_inv;rw[Dj]at hu;refine AE 16 func254 V V V ?_;refine Ac (Ab (Cy V V (Aj [(0,ptr p),(3,ptr w.heap.size)] ⟨V,V,trivial⟩ ?_)));have hb:=hw.own_new cs 294;have hw1:=hw.alloc (.cells cs.toArray 294);have fb:Fr O w O (w.alloc (.cells cs.toArray 294)):=Fr.alloc _ _ _;show W _ _ _ _ _ _ (w.alloc (.cells cs.toArray 294));generalize w.alloc (.cells cs.toArray 294)=w1 at hb hw1 fb⊢;have P0:Step w0 S p most long [] [.list l0,.list l1] s O w s O w1:=⟨hw1,fb,rfl,by omega,rfl⟩;refine Ac (Ab (Aa V V (Ad V (MV _ _ _) V (Ae V (Ai Lp (hb.cell1 e0)) V (Aa V V (Ba V V V (Af call286 V V (Agi (λt _=>Avk t) _ r0 _ _ _ P0.st P0.hdl) ?_ (λch w' h a ha=>Ap (A8 ha (P0.pan h (λe=>(BN V).trans e)))))))))));rintro _ w' ⟨rfl,s',O',hs,f,hw'⟩;have P1:Step w0 S p most long [.list l0] [.list l1] s O w s' O' w':=P0.next hs f hw';replace hb:=f.keep hb;refine Aj [(0,ptr p),(3,ptr w.heap.size)] ⟨V,V,trivial⟩ ?_;refine Ab (Aa V V (Ad V (U1 _ _ _) V (Ae V (Ai Ew (hb.cell1 e1)) V (Aa V V (Ba V V V (Af call213 V V (KZ (λt' ht=>ih t' (JD hN (i:=1) V ht)) _ r1 _ _ _ P1.st P1.hdl) ?_ (λch w' h a ha=>A8 ha (P1.pan h (λe=>(BN V).trans e)))))))));rintro _ w' ⟨rfl,s',O',hs,f,hw'⟩;have P2:Step w0 S p most long [.list l0,.list l1] [] s O w s' O' w':=P1.next hs f hw';replace hb:=f.keep hb;exact A2 λa ha=>B9 V ha ⟨rfl,_,_,(BN V).trans P2.en,P2.fr,P2.st⟩
theorem Af7(ih:∀t',t'.wt<N->B0 w0 S p most long 214 (.st .instr) t')(t:T)(hN:t.wt<=N):B0 w0 S p most long 214 (.st .instr) t:=by
 intro cs hr s O w hw hu;obtain⟨l,rfl,hlen,hF⟩:=hr.st_inv;obtain⟨t0,l,rfl,r0,hF⟩:=hF.cons_inv;obtain⟨t1,l,rfl,r1,hF⟩:=hF.cons_inv;obtain⟨t2,l,rfl,r2,hF⟩:=hF.cons_inv;obtain⟨t3,l,rfl,r3,hF⟩:=hF.cons_inv;obtain⟨t4,l,rfl,r4,hF⟩:=hF.cons_inv;obtain⟨t5,l,rfl,r5,hF⟩:=hF.cons_inv;obtain⟨t6,l,rfl,r6,hF⟩:=hF.cons_inv;obtain⟨t7,l,rfl,r7,hF⟩:=hF.cons_inv;obtain⟨t8,l,rfl,r8,hF⟩:=hF.cons_inv;obtain⟨t9,l,rfl,r9,hF⟩:=hF.cons_inv;obtain⟨t10,l,rfl,r10,hF⟩:=hF.cons_inv;obtain⟨t11,l,rfl,r11,hF⟩:=hF.cons_inv;obtain⟨t12,l,rfl,r12,hF⟩:=hF.cons_inv;obtain⟨t13,l,rfl,r13,hF⟩:=hF.cons_inv;obtain⟨t14,l,rfl,r14,hF⟩:=hF.cons_inv;obtain⟨t15,l,rfl,r15,hF⟩:=hF.cons_inv;obtain⟨t16,l,rfl,r16,hF⟩:=hF.cons_inv;obtain rfl:=hF.nil_inv;simp only[Nat.reduceAdd,Ty.size,SN.size]at r0 r1 r2 r3 r4 r5 r6 r7 r8 r9 r10 r11 r12 r13 r14 r15 r16;obtain⟨n0,rfl,e0,i0⟩:=r0.int_inv;obtain⟨x1,rfl,e1,i1⟩:=r1.str_inv;obtain⟨x2,rfl,e2,i2⟩:=r2.str_inv;obtain⟨v3,e3⟩:=C7 r3 rfl;rw[e3]at r3;obtain⟨l3,rfl,_⟩:=r3.list_inv;obtain⟨v4,e4⟩:=C7 r4 rfl;rw[e4]at r4;obtain⟨l4,rfl,_⟩:=r4.list_inv;obtain⟨b5,rfl,e5⟩:=r5.bool_inv;obtain⟨v9,e9⟩:=C7 r9 rfl;rw[e9]at r9;obtain⟨l9,rfl,_⟩:=r9.list_inv;obtain⟨Ep,e10⟩:=C7 r10 rfl;rw[e10]at r10;obtain⟨l10,rfl,_⟩:=r10.list_inv;obtain⟨CJ,e11⟩:=C7 r11 rfl;rw[e11]at r11;obtain⟨l11,rfl,_⟩:=r11.list_inv;obtain⟨DZ,e12⟩:=C7 r12 rfl;rw[e12]at r12;obtain⟨l12,rfl,_⟩:=r12.list_inv;obtain⟨Er,e13⟩:=C7 r13 rfl;rw[e13]at r13;obtain⟨l13,rfl,_⟩:=r13.list_inv;obtain⟨HJ,e14⟩:=C7 r14 rfl;rw[e14]at r14;obtain⟨l14,rfl,_⟩:=r14.list_inv;obtain⟨n15,rfl,e15,i15⟩:=r15.int_inv;obtain⟨n16,rfl,e16,i16⟩:=r16.int_inv;rw[Dj]at hu;refine IU 90 func214 V V V ?_;refine Ac (Ab (Cy V V (Aj [(0,ptr p),(3,ptr w.heap.size)] ⟨V,V,trivial⟩ ?_)));have hb:=hw.own_new cs 72;have hw1:=hw.alloc (.cells cs.toArray 72);have fb:Fr O w O (w.alloc (.cells cs.toArray 72)):=Fr.alloc _ _ _;show W _ _ _ _ _ _ (w.alloc (.cells cs.toArray 72));generalize w.alloc (.cells cs.toArray 72)=w1 at hb hw1 fb⊢;refine Ac (Ab (Aa V V (Af call150 V V (SK hw1 (by omega)) ?_ ?_)));rotate_left
 ·rintro ch w2 ⟨rfl,ho,O2,f2,hw2⟩ a ha;exact Ap (L6 ha ⟨rfl,Tr V ho,_,O2,fb.trans f2,hw2,Cb _,by show s.nest+1<=_;simp only[WS.use]at hu;omega⟩)
 rintro _ w2 ⟨hno,bx,O2,rfl,hx,_,f2,hw2⟩;replace hb:=f2.keep hb;refine IP V (Aj [(0,ptr p),(3,ptr w.heap.size)] ⟨V,V,trivial⟩ ?_);have hu0:({s with nest:=s.nest+1}:WS).use=s.use+1:=by simp only[WS.use];omega
 have P0:Step w0 S p most long [] [.int n0,.str x1,.str x2,.list l3,.list l4,.bool b5,t6,t7,t8,.list l9,.list l10,.list l11,.list l12,.list l13,.list l14,.int n15,.int n16] {s with nest:=s.nest+1} O w {s with nest:=s.nest+1} O2 w2:=⟨hw2,fb.trans f2,rfl,by rw[hu0];omega,rfl⟩;refine Ac (Ab (Aa rfl rfl (Ad rfl (UJ _ _ _) rfl (Ae rfl (Ai AQ (hb.cell1 e0)) rfl (Af call218 rfl rfl (JT i0 _ _ _ P0.st P0.hd1) ?_ (λ_ _ h=>by obtain⟨_,h,_⟩:=h;simp only[enc]at h;cases h))))));rintro _ w' ⟨rfl,s',O',hs,f,hw'⟩;have P1:Step w0 S p most long [.int n0] [.str x1,.str x2,.list l3,.list l4,.bool b5,t6,t7,t8,.list l9,.list l10,.list l11,.list l12,.list l13,.list l14,.int n15,.int n16] {s with nest:=s.nest+1} O w s' O' w':=P0.next hs f hw';replace hb:=f.keep hb;replace hx:=f.keep hx;refine Aj [(0,ptr p),(3,ptr w.heap.size)] ⟨V,V,trivial⟩ ?_;refine Ac (Ab (Aa rfl rfl (Ad rfl (UK _ _ _) rfl (Ae rfl (Ai AK (hb.cell1 e1)) rfl (Af call151 rfl rfl (CZ i1 _ _ _ P1.st P1.hd1) ?_ (λ_ _ h=>by obtain⟨_,h,_⟩:=h;simp only[enc]at h;cases h))))));rintro _ w' ⟨rfl,s',O',hs,f,hw'⟩;have P2:Step w0 S p most long [.int n0,.str x1] [.str x2,.list l3,.list l4,.bool b5,t6,t7,t8,.list l9,.list l10,.list l11,.list l12,.list l13,.list l14,.int n15,.int n16] {s with nest:=s.nest+1} O w s' O' w':=P1.next hs f hw';replace hb:=f.keep hb;replace hx:=f.keep hx;refine Aj [(0,ptr p),(3,ptr w.heap.size)] ⟨V,V,trivial⟩ ?_;refine Ac (Ab (Aa rfl rfl (Ad rfl (UQ _ _ _) rfl (Ae rfl (Ai AK (hb.cell1 e2)) rfl (Af call151 rfl rfl (CZ i2 _ _ _ P2.st P2.hd1) ?_ (λ_ _ h=>by obtain⟨_,h,_⟩:=h;simp only[enc]at h;cases h))))));rintro _ w' ⟨rfl,s',O',hs,f,hw'⟩;have P3:Step w0 S p most long [.int n0,.str x1,.str x2] [.list l3,.list l4,.bool b5,t6,t7,t8,.list l9,.list l10,.list l11,.list l12,.list l13,.list l14,.int n15,.int n16] {s with nest:=s.nest+1} O w s' O' w':=P2.next hs f hw';replace hb:=f.keep hb;replace hx:=f.keep hx;refine Aj [(0,ptr p),(3,ptr w.heap.size)] ⟨V,V,trivial⟩ ?_;refine Ac (Ab (Aa V V (Ad V (UR _ _ _) V (Ae V (Ai Kh (hb.cell1 e3)) V (Aa V V (Ba V V V (Af call247 V V (Y0 (λt _=>Y1 t) _ r3 _ _ _ P3.st P3.hdl) ?_ (λch w' h a ha=>Ap (Bt ha (P3.panD hx V h V))))))))));rintro _ w' ⟨rfl,s',O',hs,f,hw'⟩;have P4:Step w0 S p most long [.int n0,.str x1,.str x2,.list l3] [.list l4,.bool b5,t6,t7,t8,.list l9,.list l10,.list l11,.list l12,.list l13,.list l14,.int n15,.int n16] {s with nest:=s.nest+1} O w s' O' w':=P3.next hs f hw';replace hb:=f.keep hb;replace hx:=f.keep hx;refine Aj [(0,ptr p),(3,ptr w.heap.size)] ⟨V,V,trivial⟩ ?_;refine Ac (Ab (Aa V V (Ad V (US _ _ _) V (Ae V (Ai Kh (hb.cell1 e4)) V (Aa V V (Ba V V V (Af call247 V V (Y0 (λt _=>Y1 t) _ r4 _ _ _ P4.st P4.hdl) ?_ (λch w' h a ha=>Ap (Bt ha (P4.panD hx V h V))))))))));rintro _ w' ⟨rfl,s',O',hs,f,hw'⟩;have P5:Step w0 S p most long [.int n0,.str x1,.str x2,.list l3,.list l4] [.bool b5,t6,t7,t8,.list l9,.list l10,.list l11,.list l12,.list l13,.list l14,.int n15,.int n16] {s with nest:=s.nest+1} O w s' O' w':=P4.next hs f hw';replace hb:=f.keep hb;replace hx:=f.keep hx;refine Aj [(0,ptr p),(3,ptr w.heap.size)] ⟨V,V,trivial⟩ ?_;refine Ac (Ab (Aa V V (Ad V (UT _ _ _) V (Ae V (Ai Cm (hb.cell1 e5)) V (BR V (G5 underlying349 D4 zeroValue4 V V) V ?_)))));refine Af call206 V V (Gf (ns:=[b5]) (P5.st.alloc _) (Step.hdb (ns:=[b5]) P5) (P5.st.own_new _ 4)) ?_ Am;rintro _ w' ⟨rfl,O',f,hw'⟩;replace f:=(Fr.alloc _ _ _).trans f;have P6:Step w0 S p most long [.int n0,.str x1,.str x2,.list l3,.list l4,.bool b5] [t6,t7,t8,.list l9,.list l10,.list l11,.list l12,.list l13,.list l14,.int n15,.int n16] {s with nest:=s.nest+1} O w _ O' w':=P5.bools (ns:=[b5]) f hw';replace hb:=f.keep hb;replace hx:=f.keep hx;refine Aj [(0,ptr p),(3,ptr w.heap.size)] ⟨V,V,trivial⟩ ?_;refine Ac (Ab (Aa V V (Ad V (UU _ _ _) V (Ae V (AS Cr (Rep.one _ _ _ r6).1 (hb.blk.at_ 6 16)) V (Af call209 V V (FF _ _ r6 _ _ _ P6.st P6.hd) ?_ (λch w' h a ha=>Ap (Bt ha (P6.panD hx V h V))))))));rintro _ w' ⟨rfl,s',O',hs,f,hw'⟩;have P7:Step w0 S p most long [.int n0,.str x1,.str x2,.list l3,.list l4,.bool b5,t6] [t7,t8,.list l9,.list l10,.list l11,.list l12,.list l13,.list l14,.int n15,.int n16] {s with nest:=s.nest+1} O w s' O' w':=P6.next hs f hw';replace hb:=f.keep hb;replace hx:=f.keep hx;refine Aj [(0,ptr p),(3,ptr w.heap.size)] ⟨V,V,trivial⟩ ?_;refine Ac (Ab (Aa V V (Ad V (UV _ _ _) V (Ae V (AS Cr (Rep.one _ _ _ r7).1 (hb.blk.at_ 22 16)) V (Af call209 V V (FF _ _ r7 _ _ _ P7.st P7.hd) ?_ (λch w' h a ha=>Ap (Bt ha (P7.panD hx V h V))))))));rintro _ w' ⟨rfl,s',O',hs,f,hw'⟩;have P8:Step w0 S p most long [.int n0,.str x1,.str x2,.list l3,.list l4,.bool b5,t6,t7] [t8,.list l9,.list l10,.list l11,.list l12,.list l13,.list l14,.int n15,.int n16] {s with nest:=s.nest+1} O w s' O' w':=P7.next hs f hw';replace hb:=f.keep hb;replace hx:=f.keep hx;refine Aj [(0,ptr p),(3,ptr w.heap.size)] ⟨V,V,trivial⟩ ?_;refine Ac (Ab (Aa V V (Ad V (UW _ _ _) V (Ae V (AS Ex (Rep.one _ _ _ r8).1 (hb.blk.at_ 38 5)) V (Af call215 V V (MB _ _ r8 _ _ _ P8.st P8.hd) ?_ (λch w' h a ha=>Ap (Bt ha (P8.panD hx V h V))))))));rintro _ w' ⟨rfl,s',O',hs,f,hw'⟩;have P9:Step w0 S p most long [.int n0,.str x1,.str x2,.list l3,.list l4,.bool b5,t6,t7,t8] [.list l9,.list l10,.list l11,.list l12,.list l13,.list l14,.int n15,.int n16] {s with nest:=s.nest+1} O w s' O' w':=P8.next hs f hw';replace hb:=f.keep hb;replace hx:=f.keep hx;refine Aj [(0,ptr p),(3,ptr w.heap.size)] ⟨V,V,trivial⟩ ?_;refine Ac (Ab (Aa V V (Ad V (UX _ _ _) V (Ae V (Ai Ki (hb.cell1 e9)) V (Aa V V (Ba V V V (Af call249 V V (Y2 (λt _=>Y3 t) _ r9 _ _ _ P9.st P9.hdl) ?_ (λch w' h a ha=>Ap (Bt ha (P9.panD hx V h V))))))))));rintro _ w' ⟨rfl,s',O',hs,f,hw'⟩;have P10:Step w0 S p most long [.int n0,.str x1,.str x2,.list l3,.list l4,.bool b5,t6,t7,t8,.list l9] [.list l10,.list l11,.list l12,.list l13,.list l14,.int n15,.int n16] {s with nest:=s.nest+1} O w s' O' w':=P9.next hs f hw';replace hb:=f.keep hb;replace hx:=f.keep hx;refine Aj [(0,ptr p),(3,ptr w.heap.size)] ⟨V,V,trivial⟩ ?_;refine Ac (Ab (Aa V V (Ad V (UL _ _ _) V (Ae V (Ai Hx (hb.cell1 e10)) V (Aa V V (Ba V V V (Af call211 V V (SO (λt' ht=>Yx ih t' (HR (JD hN (i:=10) V ht))) _ r10 _ _ _ P10.st P10.hdl) ?_ (λch w' h a ha=>Ap (Bt ha (P10.panD hx V h V))))))))));rintro _ w' ⟨rfl,s',O',hs,f,hw'⟩;have P11:Step w0 S p most long [.int n0,.str x1,.str x2,.list l3,.list l4,.bool b5,t6,t7,t8,.list l9,.list l10] [.list l11,.list l12,.list l13,.list l14,.int n15,.int n16] {s with nest:=s.nest+1} O w s' O' w':=P10.next hs f hw';replace hb:=f.keep hb;replace hx:=f.keep hx;refine Aj [(0,ptr p),(3,ptr w.heap.size)] ⟨V,V,trivial⟩ ?_;refine Ac (Ab (Aa V V (Ad V (Lk _ _ _) V (Ae V (Ai Kj (hb.cell1 e11)) V (Aa V V (Ba V V V (Af call251 V V (Agc (λt _=>Agd t) _ r11 _ _ _ P11.st P11.hdl) ?_ (λch w' h a ha=>Ap (Bt ha (P11.panD hx V h V))))))))));rintro _ w' ⟨rfl,s',O',hs,f,hw'⟩;have P12:Step w0 S p most long [.int n0,.str x1,.str x2,.list l3,.list l4,.bool b5,t6,t7,t8,.list l9,.list l10,.list l11] [.list l12,.list l13,.list l14,.int n15,.int n16] {s with nest:=s.nest+1} O w s' O' w':=P11.next hs f hw';replace hb:=f.keep hb;replace hx:=f.keep hx;refine Aj [(0,ptr p),(3,ptr w.heap.size)] ⟨V,V,trivial⟩ ?_;refine Ac (Ab (Aa V V (Ad V (Jc _ _ _) V (Ae V (Ai It (hb.cell1 e12)) V (Aa V V (Ba V V V (Af call253 V V (Age (λt' ht=>Agf ih t' (HR (JD hN (i:=12) V ht))) _ r12 _ _ _ P12.st P12.hdl) ?_ (λch w' h a ha=>Ap (Bt ha (P12.panD hx V h V))))))))));rintro _ w' ⟨rfl,s',O',hs,f,hw'⟩;have P13:Step w0 S p most long [.int n0,.str x1,.str x2,.list l3,.list l4,.bool b5,t6,t7,t8,.list l9,.list l10,.list l11,.list l12] [.list l13,.list l14,.int n15,.int n16] {s with nest:=s.nest+1} O w s' O' w':=P12.next hs f hw';replace hb:=f.keep hb;replace hx:=f.keep hx;refine Aj [(0,ptr p),(3,ptr w.heap.size)] ⟨V,V,trivial⟩ ?_;refine Ac (Ab (Aa V V (Ad V (UM _ _ _) V (Ae V (Ai Ew (hb.cell1 e13)) V (Aa V V (Ba V V V (Af call213 V V (KZ (λt' ht=>ih t' (JD hN (i:=13) V ht)) _ r13 _ _ _ P13.st P13.hdl) ?_ (λch w' h a ha=>Ap (Bt ha (P13.panD hx V h V))))))))));rintro _ w' ⟨rfl,s',O',hs,f,hw'⟩;have P14:Step w0 S p most long [.int n0,.str x1,.str x2,.list l3,.list l4,.bool b5,t6,t7,t8,.list l9,.list l10,.list l11,.list l12,.list l13] [.list l14,.int n15,.int n16] {s with nest:=s.nest+1} O w s' O' w':=P13.next hs f hw';replace hb:=f.keep hb;replace hx:=f.keep hx;refine Aj [(0,ptr p),(3,ptr w.heap.size)] ⟨V,V,trivial⟩ ?_;refine Ac (Ab (Aa V V (Ad V (UN _ _ _) V (Ae V (Ai Ew (hb.cell1 e14)) V (Aa V V (Ba V V V (Af call213 V V (KZ (λt' ht=>ih t' (JD hN (i:=14) V ht)) _ r14 _ _ _ P14.st P14.hdl) ?_ (λch w' h a ha=>Ap (Bt ha (P14.panD hx V h V))))))))));rintro _ w' ⟨rfl,s',O',hs,f,hw'⟩;have P15:Step w0 S p most long [.int n0,.str x1,.str x2,.list l3,.list l4,.bool b5,t6,t7,t8,.list l9,.list l10,.list l11,.list l12,.list l13,.list l14] [.int n15,.int n16] {s with nest:=s.nest+1} O w s' O' w':=P14.next hs f hw';replace hb:=f.keep hb;replace hx:=f.keep hx;refine Aj [(0,ptr p),(3,ptr w.heap.size)] ⟨V,V,trivial⟩ ?_;refine Ab (Aa V V (Ad V (UO _ _ _) V (Ae V (Ai AQ (hb.cell1 e15)) V (Ad V (UP _ _ _) V (Ae V (Ai AQ (hb.cell1 e16)) V (BR V (J5 underlying262 Bo zeroValue3 V V V) V ?_))))));refine Af call207 V V (IS (ns:=[n15,n16]) (Nj i15 i16) (P15.st.alloc _) (Step.hdi (ns:=[n15,n16]) P15) (P15.st.own_new _ 3)) ?_ Am;rintro _ w' ⟨rfl,O',f,hw'⟩;replace f:=(Fr.alloc _ _ _).trans f;have P16:Step w0 S p most long [.int n0,.str x1,.str x2,.list l3,.list l4,.bool b5,t6,t7,t8,.list l9,.list l10,.list l11,.list l12,.list l13,.list l14,.int n15,.int n16] [] {s with nest:=s.nest+1} O w _ O' w':=P15.ints (ns:=[n15,n16]) f hw';replace hb:=f.keep hb;replace hx:=f.keep hx;exact A2 λa ha=>Wa ha (P16.endD V hx V hno V)
theorem WY(t:T):B0 w0 S p most long 214 (.st .instr) t:=by
 have key:∀(N:Nat) (t:T),t.wt<=N->B0 w0 S p most long 214 (.st .instr) t:=by
  intro N;induction N with
  |zero=>intro t h;have:=t.wt_pos;omega
  |succ N ih=>intro t h;exact Af7 (N:=N+1) (λt' h'=>ih t' (by omega)) t h
 exact key _ t (Ay _)
theorem Adp(t:T):B0 w0 S p most long 212 (.st .param) t:=Yx (N:=t.wt) (λt' _=>WY t') t (Ay _)
end Go.Sx