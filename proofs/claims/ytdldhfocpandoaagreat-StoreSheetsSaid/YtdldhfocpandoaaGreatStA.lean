import Derived.Test.YtdldhfocpandoaaGreatAl
import Derived.Tactics2
import Derived.Recover
import Derived.Laws.AppendOwn
import Derived.Maps.Own
import Derived.Deep.AppendSrc
import Derived.Test.YtdldhfocpandoaaGreatProg
import Derived.KernelRfl
set_option maxHeartbeats 8000000
set_option maxRecDepth 8000
namespace Go.Sx
abbrev Env:=List (Nat×Value)
def Env.get:Env->Nat->Option Value
 |[],_=>none
 |(i,v)::m,j=>match Nat.beq i j with
  |true=>some v
  |false=>Env.get m j
def ev(m:Env):Operand->Option Value
 | .tmp t=>m.get t
 | .const v=>some v
 | .global g=>some (.pointer (some ⟨g,0,none⟩))
 | .func f=>some (.func (.func f) #[] #[])
def evs(m:Env):List Operand->Option (List Value)
 |[]=>some []
 |x::xs=>match ev m x,evs m xs with
  |some v,some vs=>some (v::vs)
  |_,_=>none
structure Loc(n:Nat)(ds:List Deferred)(m:Env)(a:Act):Prop where
 size:a.tmps.size=n
 defers:a.defers=ds
 slot:∀i v,m.get i=some v->a.tmps[i]? =some v
section
variable{n:Nat}{ds:List Deferred}{m:Env}{a:Act}
variable{v:Value}{x:Operand}
theorem Loc.eval(h:Loc n ds m a)(hx:ev m x=some v):a.eval x=v:=by
 cases x with
 |tmp t=>
  have:=h.slot t v hx;simp[Act.eval,HL,this]
 |const c=>simpa[ev,Act.eval]using hx
 |global g=>simpa[ev,Act.eval]using hx
 |func f=>simpa[ev,Act.eval]using hx
theorem Loc.evals(h:Loc n ds m a):∀{xs:List Operand}{vs:List Value},evs m xs=some vs->xs.map a.eval=vs
 |[],vs,hx=>by simp[evs]at hx;simp[hx]
 |x::xs,vs,hx=>by
  simp only[evs]at hx;split at hx
  ·rename_i v vs' h1 h2;cases hx;simp[h.eval h1,h.evals h2]
  ·cases hx
theorem Loc.put(h:Loc n ds m a)(d:Nat)(v:Value)(hd:Nat.blt d n=true):Loc n ds ((d,v)::m) (a.put (some d) v):=by
 have hd':d<n:=by simpa[A_]using hd
 refine⟨by simpa[Act.put]using h.size,by simpa[Act.put]using h.defers,?_⟩;intro i u hu;simp only[Env.get]at hu;simp only[Act.put,Array.getElem?_setIfInBounds];by_cases hi:d=i
 ·subst hi;rw[KG]at hu;cases hu;simp[h.size,hd']
 ·have hb:Nat.beq d i=false:=by
   cases hb:Nat.beq d i with
   |false=>rfl
   |true=>exact absurd (AH hb) hi
  rw[hb]at hu;simp[hi,h.slot i u hu]
def Sub:Env->Env->Prop
 |[],_=>True
 |p::r,m=>m.get p.1=some p.2/\Sub r m
theorem Sub.get:∀{l m:Env},Sub l m->∀i v,l.get i=some v->m.get i=some v
 |[],_,_,i,v,h=>by simp[Env.get]at h
 |(j,u)::l,m,hs,i,v,h=>by
  simp only[Env.get]at h;cases hb:Nat.beq j i with
  |true=>
   rw[hb]at h;cases h;exact(AH hb)▸hs.1
  |false=>
   rw[hb]at h;exact Sub.get hs.2 i v h
theorem Loc.weak{l:Env}(h:Loc n ds m a)(hs:Sub l m):Loc n ds l a:=⟨h.size,h.defers,λi v hv=>h.slot i v (hs.get i v hv)⟩
theorem Loc.defer(h:Loc n ds m a)(d:Deferred):Loc n (d::ds) m {a with defers:=d::a.defers}:=
 ⟨h.size,by simp[h.defers],h.slot⟩
end
def W(P:Program)(c:Code)(Q:Exit->Act->World->Prop)(n:Nat)(ds:List Deferred)(m:Env)(w:World):Prop:=
 ∀a,Loc n ds m a->c.wp P Q a w
def WL(P:Program)(ops:Array Oper)(Q:Exit->Act->World->Prop)(l:List Oper)(n:Nat)(ds:List Deferred)(m:Env)(w:World):Prop:=
 ∀a,Loc n ds m a->wpList P ops Q l a w
section
variable{P:Program}{ops:Array Oper}{Q:Exit->Act->World->Prop}{rest:List Oper}{n:Nat}{ds:List Deferred}{m:Env}{w:World}
variable{a:Act}{c:Code}
theorem A6(ha:Loc n ds m a)(h:W P c Q n ds m w):c.wp P Q a w:=h a ha
theorem JM(l:Env)(hs:Sub l m)(h:W P c Q n ds l w):W P c Q n ds m w:=λa ha=>h a (ha.weak hs)
theorem Ac{x y:Code}(h:W P x (Exit.then (y.wp P Q) Q) n ds m w):W P (.seq x y) Q n ds m w:=λa ha=>wp_seq (h a ha)
theorem CM{ι:Type}{x y:Code}(E:ι->Env)(I:ι->World->Prop)(h1:W P x (Exit.then (λa' w'=>∃j,Loc n ds (E j) a'/\I j w') Q) n ds m w)
 (h2:∀j w',I j w'->W P y Q n ds (E j) w'):W P (.seq x y) Q n ds m w:=by
 intro a ha;refine wp_seq (Go.wp_mono (h1 a ha) ?_);intro e a' w' h;cases e with
 |normal=>obtain⟨j,hl,hi⟩:=h;exact h2 j w' hi a' hl
 |_=>exact h
variable{id:Nat}
theorem Ab{l:List Oper}(h:WL P l.toArray Q l n ds m w):W P (.region id l.toArray false) Q n ds m w:=
 λa ha=>wp_region_lit (h a ha)
theorem AG(h:∀a,Loc n ds m a->Q .normal a w):W P .skip Q n ds m w:=λa ha=>wp_skip (h a ha)
theorem AJ(h:∀a,Loc n ds m a->Q .ret a w):W P .ret Q n ds m w:=λa ha=>wp_ret (h a ha)
theorem BC(h:∀a,Loc n ds m a->Q (.exit id) a w):W P (.exit id) Q n ds m w:=λa ha=>wp_exit (h a ha)
theorem AF(h:W P c (Exit.inBlock id Q) n ds m w):W P (.block id c) Q n ds m w:=λa ha=>wp_block (h a ha)
theorem AN{c:Operand}{x y:Code}{t:Bool}(hc:ev m c=some (.bool t))(ht:t=true->W P x Q n ds m w)(hf:t=false->W P y Q n ds m w):
 W P (.cond c x y) Q n ds m w:=
 λa ha=>wp_cond_split (ha.eval hc) (λh=>ht h a ha) (λh=>hf h a ha)
theorem Ga{c:Operand}{x y:Code}(hc:ev m c=some (.bool true))(h:W P x Q n ds m w):W P (.cond c x y) Q n ds m w:=
 λa ha=>wp_cond_true (ha.eval hc) (h a ha)
theorem Fz{c:Operand}{x y:Code}(hc:ev m c=some (.bool false))(h:W P y Q n ds m w):W P (.cond c x y) Q n ds m w:=
 λa ha=>wp_cond_false (ha.eval hc) (h a ha)
theorem BP{ι:Type}(E:ι->Env)(I:ι->World->Prop)(μ:ι->Nat)(i₀:ι)(hs:Sub (E i₀) m)(h₀:I i₀ w)
 (round:∀i w,I i w->W P c (Exit.then (λa' w'=>∃j,Loc n ds (E j) a'/\I j w'/\μ j<μ i) Q) n ds (E i) w):
 W P (.loop c) Q n ds m w:=by
 intro a ha b k cs;have key:∀(N:Nat) (i:ι) (a:Act) (w:World),μ i=N->Loc n ds (E i) a->I i w->
  ∃e a' w',Q e a' w'/\Arrives P (lone (b.at a (.code c:: .inLoop c::k)) cs w) b k cs e a' w':=by
  intro N;induction N using Nat.strongRecOn with
  |_ N ih=>
   intro i a w hN hl hI;obtain⟨e,a₁,w₁,hq,harr⟩:=round i w hI a hl b (.inLoop c::k) cs;cases e with
   |normal=>
    obtain⟨j,hl',hI',hlt⟩:=hq;obtain⟨e₂,a₂,w₂,hq₂,harr₂⟩:=ih (μ j) (hN▸hlt) j a₁ w₁ rfl hl' hI';exact⟨e₂,a₂,w₂,hq₂,.of_steps (Steps.trans harr (.one step_inLoop)) harr₂⟩
   |exit id=>exact⟨_,a₁,w₁,hq,.pass (x:=.inLoop c) V (λ_ _=>.inl (by simp)) harr⟩
   |goto l=>exact⟨_,a₁,w₁,hq,.pass (x:=.inLoop c) V (λ_ _=>.inl (by simp)) harr⟩
   |ret=>exact⟨_,a₁,w₁,hq,.pass (x:=.inLoop c) V (λ_ _=>.inl (by simp)) harr⟩
   |panic ch=>exact⟨_,a₁,w₁,hq,.pass (x:=.inLoop c) V (λ_ _=>.inl (by simp)) harr⟩
   |outgrown=>exact⟨_,a₁,w₁,hq,.pass (x:=.inLoop c) V (λ_ _=>.inl (by simp)) harr⟩
 obtain⟨e,a',w',hq,harr⟩:=key _ i₀ a w rfl (ha.weak hs) h₀;exact⟨e,a',w',hq,.of_steps (.one step_loop) harr⟩
theorem A2(h:∀a,Loc n ds m a->Q .normal a w):WL P ops Q [] n ds m w:=λa ha=>h a ha
theorem Ag{y:Code}(h:W P y Q n ds m w):WL P ops (Exit.then (y.wp P Q) Q) [] n ds m w:=λa ha=>h a ha
theorem Aj{y:Code}(l:Env)(hs:Sub l m)(h:W P y Q n ds l w):WL P ops (Exit.then (y.wp P Q) Q) [] n ds m w:=λa ha=>h a (ha.weak hs)
variable{w':World}{v:Value}{d:Nat}
theorem CY{o:Oper}(hg:o.guard=none)(hd:o.dst=some d)(hb:Nat.blt d n=true)
 (hr:∀a,Loc n ds m a->(execOp a.eval o).run P w= .ok (.value v) w')
 (h:WL P ops Q rest n ds ((d,v)::m) w'):WL P ops Q (o::rest) n ds m w:=
 λa ha=>wpList_plain hg λK hK=>by
  unfold Oper.wp;rw[hr a ha,Oper.upon_value,hd];exact hK _ _ (h _ (ha.put d v hb))
theorem XD{o:Oper}(hg:o.guard=none)(hd:o.dst=none)
 (hr:∀a,Loc n ds m a->(execOp a.eval o).run P w= .ok .skip w')
 (h:WL P ops Q rest n ds m w'):WL P ops Q (o::rest) n ds m w:=
 λa ha=>wpList_plain hg λK hK=>by
  unfold Oper.wp;rw[hr a ha,Oper.upon_skip,hd];exact hK _ _ (h _ ha)
variable{j:Nat}{ty:TypeId}
theorem A9{op:Op}{pos:String}{aft:Array Edge}{want:Bool}{o':Oper}{dj:Nat}
 (hj:ops[j]? =some o') (hdj:o'.dst=some dj) (hv:m.get dj=some (.bool want))
 (h:WL P ops Q (⟨some d,op,ty,pos,aft,none⟩::rest) n ds m w):WL P ops Q (⟨some d,op,ty,pos,aft,some (j,want)⟩::rest) n ds m w:=by
 intro a ha;have h1:=h a ha;unfold wpList at h1⊢;have hw:Region.wanted ⟨some d,op,ty,pos,aft,some (j,want)⟩ (yielded ops a.tmps)=true:=by
  simp[Region.wanted,yielded,hj,hdj,ha.slot dj _ hv]
 have hw':Region.wanted ⟨some d,op,ty,pos,aft,none⟩ (yielded ops a.tmps)=true:=by simp[Region.wanted]
 rw[if_pos hw];rw[if_pos hw']at h1;exact h1
def Kc(v:Value)(b:Bool):Bool:=match v with
 | .bool c=>c==b
 |_=>false
theorem Cz{op:Op}{pos:String}{aft:Array Edge}{want:Bool}{o':Oper}{dj:Nat}{vj:Value}
 (hj:ops[j]? =some o') (hdj:o'.dst=some dj) (hv:m.get dj=some vj) (hn:Kc vj want=false) (hb:Nat.blt d n=true)
 (h:WL P ops Q rest n ds ((d,undef)::m) w):WL P ops Q (⟨some d,op,ty,pos,aft,some (j,want)⟩::rest) n ds m w:=by
 intro a ha;have h1:=h _ (ha.put d undef hb);unfold wpList;have hw:Region.wanted ⟨some d,op,ty,pos,aft,some (j,want)⟩ (yielded ops a.tmps)=false:=by
  simp only[Region.wanted,yielded,hj,hdj,Cw,ha.slot dj _ hv];cases vj<;>simp_all[Kc]
 rw[hw];exact h1
end
section
variable{P:Program}{ops:Array Oper}{Q:Exit->Act->World->Prop}{rest:List Oper}{n:Nat}{ds:List Deferred}{m:Env}{w:World}
 {d:Nat}{ty:TypeId}{pos:String}{aft:Array Edge}
variable{v:Value}{x:Operand}
theorem Aa(hx:ev m x=some v)(hb:Nat.blt d n=true)(h:WL P ops Q rest n ds ((d,v)::m) w):
 WL P ops Q (⟨some d,.move x,ty,pos,aft,none⟩::rest) n ds m w:=
 CY rfl rfl hb (λa ha=>by simp[execOp,ha.eval hx]) h
theorem Ah(hx:ev m x=some v)(hb:Nat.blt d n=true)(h:WL P ops Q rest n ds ((d,v)::m) w):
 WL P ops Q (⟨some d,.assign x,ty,pos,aft,none⟩::rest) n ds m w:=
 CY rfl rfl hb (λa ha=>by simp[execOp,ha.eval hx]) h
variable{y:Operand}
theorem BW{c:Operand}{b:Bool}(hc:ev m c=some (.bool b))(hx:(match b with|true=>ev m x|false=>ev m y)=some v)(hb:Nat.blt d n=true)
 (h:WL P ops Q rest n ds ((d,v)::m) w):WL P ops Q (⟨some d,.pick c x y,ty,pos,aft,none⟩::rest) n ds m w:=
 CY rfl rfl hb (λa ha=>by
  cases b
  ·simp[execOp,ha.eval hc,asBool,ha.eval hx]
  ·simp[execOp,ha.eval hc,asBool,ha.eval hx]) h
variable{p:Addr}{t:TypeId}
theorem Ae(hx:ev m x=some (.pointer (some p)))(hr:(loadVar t p).run P w= .ok v w)(hb:Nat.blt d n=true)
 (h:WL P ops Q rest n ds ((d,v)::m) w):WL P ops Q (⟨some d,.load t x,ty,pos,aft,none⟩::rest) n ds m w:=
 CY rfl rfl hb (λa ha=>by simp[execOp,ha.eval hx,Instr.loadAt,Instr.sureAddr,hr]) h
variable{w':World}
theorem An(hx:ev m x=some (.pointer (some p)))(hy:ev m y=some v)
 (hr:(storeVar t p v).run P w= .ok () w')
 (h:WL P ops Q rest n ds m w'):WL P ops Q (⟨none,.store t x y,ty,pos,aft,none⟩::rest) n ds m w:=
 XD rfl rfl (λa ha=>by simp[execOp,ha.eval hx,ha.eval hy,Instr.storeAt,Instr.sureAddr,hr]) h
theorem AR(hx:ev m x=some (.pointer (some p)))(hb:Nat.blt d n=true)
 (h:WL P ops Q rest n ds ((d,.pointer (some p))::m) w):WL P ops Q (⟨some d,.nilCheck x,ty,pos,aft,none⟩::rest) n ds m w:=
 CY rfl rfl hb (λa ha=>by simp[execOp,ha.eval hx]) h
theorem Ad{s k:Nat}{q:Addr}(hx:ev m x=some (.pointer (some p)))(hr:(Instr.fieldAt s (.pointer (some p)) k).run P w= .ok (.pointer (some q)) w)(hb:Nat.blt d n=true)
 (h:WL P ops Q rest n ds ((d,.pointer (some q))::m) w):WL P ops Q (⟨some d,.fieldAddr s x k,ty,pos,aft,none⟩::rest) n ds m w:=
 CY rfl rfl hb (λa ha=>by simp[execOp,ha.eval hx,hr]) h
variable{vy vx:Value}
theorem AO{t:Nat}(hx:ev m x=some vx)(hy:ev m y=some vy)(hr:(Instr.indexAt t vx vy).run P w= .ok v w)(hb:Nat.blt d n=true)
 (h:WL P ops Q rest n ds ((d,v)::m) w):WL P ops Q (⟨some d,.indexAddr t x y,ty,pos,aft,none⟩::rest) n ds m w:=
 CY rfl rfl hb (λa ha=>by simp[execOp,ha.eval hx,ha.eval hy,hr]) h
variable{k' k:IntKind}{op:BinOp}
theorem Al{t u:Nat}{i j:Int}(hx:ev m x=some (.int k i))(hy:ev m y=some (.int k' j))
 (hr:(binOp op t (.int k i) (.int k' j)).run P w= .ok v w) (hb:Nat.blt d n=true)
 (h:WL P ops Q rest n ds ((d,v)::m) w):WL P ops Q (⟨some d,.binOp op t x y u,ty,pos,aft,none⟩::rest) n ds m w:=
 CY rfl rfl hb (λa ha=>by
  have he:eqGuard op t x y (.int k i) (.int k' j)=pure ():=by unfold eqGuard;cases op<;>rfl
  simp[execOp,ha.eval hx,ha.eval hy,he,hr]) h
theorem Fg{t u:Nat}{i j:ByteArray}(hx:ev m x=some (.string i))(hy:ev m y=some (.string j))
 (hr:(binOp op t (.string i) (.string j)).run P w= .ok v w) (hb:Nat.blt d n=true)
 (h:WL P ops Q rest n ds ((d,v)::m) w):WL P ops Q (⟨some d,.binOp op t x y u,ty,pos,aft,none⟩::rest) n ds m w:=
 CY rfl rfl hb (λa ha=>by
  have he:eqGuard op t x y (.string i) (.string j)=pure ():=by unfold eqGuard;cases op<;>rfl
  simp[execOp,ha.eval hx,ha.eval hy,he,hr]) h
theorem Ff{t u:Nat}(hx:ev m x=some vx)(hy:ev m y=some vy)
 (hg:(eqGuard op t x y vx vy).run P w= .ok () w) (hr:(binOp op t vx vy).run P w= .ok v w) (hb:Nat.blt d n=true)
 (h:WL P ops Q rest n ds ((d,v)::m) w):WL P ops Q (⟨some d,.binOp op t x y u,ty,pos,aft,none⟩::rest) n ds m w:=
 CY rfl rfl hb (λa ha=>by simp[execOp,ha.eval hx,ha.eval hy,hg,hr]) h
theorem HZ{t:Nat}{b:Bool}(hx:ev m x=some (.bool b))(hb:Nat.blt d n=true)
 (h:WL P ops Q rest n ds ((d,.bool (!b))::m) w):WL P ops Q (⟨some d,.unOp .not t x,ty,pos,aft,none⟩::rest) n ds m w:=
 CY rfl rfl hb (λa ha=>by simp[execOp,ha.eval hx,Op.unary]) h
theorem OK{op:UnOp}{t:Nat}(hx:ev m x=some vx)(hr:(Op.unary op vx).run P w= .ok v w)(hb:Nat.blt d n=true)
 (h:WL P ops Q rest n ds ((d,v)::m) w):WL P ops Q (⟨some d,.unOp op t x,ty,pos,aft,none⟩::rest) n ds m w:=
 CY rfl rfl hb (λa ha=>by simp[execOp,ha.eval hx,hr]) h
theorem BH{s t:Nat}(hx:ev m x=some vx)(hr:(convert s t vx).run P w= .ok v w')(hb:Nat.blt d n=true)
 (h:WL P ops Q rest n ds ((d,v)::m) w'):WL P ops Q (⟨some d,.convert s t x,ty,pos,aft,none⟩::rest) n ds m w:=
 CY rfl rfl hb (λa ha=>by simp[execOp,ha.eval hx,hr]) h
theorem D6{vs:Array Value}{k:Nat}(hx:ev m x=some (.tuple vs))(hk:vs[k]? =some v)(hb:Nat.blt d n=true)
 (h:WL P ops Q rest n ds ((d,v)::m) w):WL P ops Q (⟨some d,.extract x k,ty,pos,aft,none⟩::rest) n ds m w:=
 CY rfl rfl hb (λa ha=>by simp[execOp,ha.eval hx,Instr.extract,hk]) h
variable{cs:List Value}{f:FuncId}
theorem Ba{first cap:Array Operand}{fs:List Value}(hf:evs m first.toList=some fs)(hc:evs m cap.toList=some cs)(hb:Nat.blt d n=true)
 (h:WL P ops Q rest n ds ((d,.func (.func f) fs.toArray cs.toArray)::m) w):WL P ops Q (⟨some d,.makeFunc (.func f) first cap,ty,pos,aft,none⟩::rest) n ds m w:=
 CY rfl rfl hb (λa ha=>by
  have h1:first.map a.eval=fs.toArray:=DB.mp (by simpa using ha.evals hf);have h2:cap.map a.eval=cs.toArray:=DB.mp (by simpa using ha.evals hc);simp[execOp,Instr.makeFunc,h1,h2]) h
theorem Cy(hx:ev m x=some v)(hb:Nat.blt d n=true)
 (h:WL P ops Q rest n ds ((d,.pointer (some ⟨w.heap.size,0,none⟩))::m) (w.alloc (.cells v.cells t))):WL P ops Q (⟨some d,.box t x,ty,pos,aft,none⟩::rest) n ds m w:=
 CY rfl rfl hb (λa ha=>by simp[execOp,ha.eval hx,Instr.box,newVar,newRow]) h
variable{z:Value}
theorem Ct(hz:(zeroValue t).run P w= .ok z w)(hb:Nat.blt d n=true)
 (h:WL P ops Q rest n ds ((d,.pointer (some ⟨w.heap.size,0,none⟩))::m) (w.alloc (.cells z.cells t))):WL P ops Q (⟨some d,.alloc t,ty,pos,aft,none⟩::rest) n ds m w:=
 CY rfl rfl hb (λa ha=>by simp[execOp,Instr.alloc,newVar,newRow,hz]) h
theorem AI(hx:ev m x=some vx)(hr:(Builtin.len_ #[t] ty #[vx]).run P w= .ok v w)(hb:Nat.blt d n=true)
 (h:WL P ops Q rest n ds ((d,v)::m) w):WL P ops Q (⟨some d,.call {callee:=.builtin .len,args:=#[x],argTypes:=#[t]},ty,pos,aft,none⟩::rest) n ds m w:=
 CY rfl rfl hb (λa ha=>by simp[execOp,resolve,invoke,builtin,ha.eval hx,hr]) h
variable{u:TypeId}
theorem CX(hx:ev m x=some vx)(hy:ev m y=some vy)
 (hr:(Builtin.append_ #[t,u] ty #[vx,vy]).run P w= .ok v w') (hb:Nat.blt d n=true)
 (h:WL P ops Q rest n ds ((d,v)::m) w'):WL P ops Q (⟨some d,.call {callee:=.builtin .append,args:=#[x,y],argTypes:=#[t,u]},ty,pos,aft,none⟩::rest) n ds m w:=
 CY rfl rfl hb (λa ha=>by simp[execOp,resolve,invoke,builtin,ha.eval hx,ha.eval hy,hr]) h
variable{vs:List Value}
theorem EB{parts:Array (Nat×Operand)}(hp:evs m (parts.toList.map (·.2))=some vs)
 (hr:(Instr.build t ((parts.toList.map (·.1)).zip vs).toArray).run P w= .ok v w) (hb:Nat.blt d n=true)
 (h:WL P ops Q rest n ds ((d,v)::m) w):WL P ops Q (⟨some d,.build t parts,ty,pos,aft,none⟩::rest) n ds m w:=
 CY rfl rfl hb (λa ha=>by
  have h1:(parts.map λ(i,x)=>(i,a.eval x))=((parts.toList.map (·.1)).zip vs).toArray:=by
   rw[<-ha.evals hp];apply DB.mp;simp[List.zip_map',Ru]
  simp only[execOp,h1,Sem.run_bind,hr,Result.andThen_ok,Sem.run_pure]) h
variable{len:Nat}
theorem BR{t:Nat}{parts:Array (Nat×Operand)}(hp:evs m (parts.toList.map (·.2))=some vs)
 (hr:(Instr.buildSlice t len ((parts.toList.map (·.1)).zip vs).toArray).run P w= .ok v w') (hb:Nat.blt d n=true)
 (h:WL P ops Q rest n ds ((d,v)::m) w'):WL P ops Q (⟨some d,.buildSlice t len parts,ty,pos,aft,none⟩::rest) n ds m w:=
 CY rfl rfl hb (λa ha=>by
  have h1:(parts.map λ(i,x)=>(i,a.eval x))=((parts.toList.map (·.1)).zip vs).toArray:=by
   rw[<-ha.evals hp];apply DB.mp;simp[List.zip_map',Ru]
  simp only[execOp,h1,Sem.run_bind,hr,Result.andThen_ok,Sem.run_pure]) h
theorem Ia{lo hi:Option Operand}{vl vh:Option Value}(hx:ev m x=some vx)
 (hl:(match lo with|none=>some none|some y=>(ev m y).map some)=some vl) (hh:(match hi with|none=>some none|some y=>(ev m y).map some)=some vh)
 (hr:(Instr.sliceAt t vx vl vh none).run P w= .ok v w) (hb:Nat.blt d n=true)
 (h:WL P ops Q rest n ds ((d,v)::m) w):WL P ops Q (⟨some d,.slice t x lo hi none,ty,pos,aft,none⟩::rest) n ds m w:=
 CY rfl rfl hb (λa ha=>by
  have h1:lo.map a.eval=vl:=by
   cases lo with
   |none=>simpa using hl
   |some y=>
    simp only[BG]at hl;obtain⟨u,hu,rfl⟩:=hl;simp[ha.eval hu]
  have h2:hi.map a.eval=vh:=by
   cases hi with
   |none=>simpa using hh
   |some y=>
    simp only[BG]at hh;obtain⟨u,hu,rfl⟩:=hh;simp[ha.eval hu]
  simp[execOp,ha.eval hx,h1,h2,hr]) h
theorem RU{c:Bool}(hx:ev m x=some vx)(hy:ev m y=some vy)
 (hr:(Instr.lookup t vx vy c).run P w= .ok v w) (hb:Nat.blt d n=true)
 (h:WL P ops Q rest n ds ((d,v)::m) w):WL P ops Q (⟨some d,.lookup t x y c,ty,pos,aft,none⟩::rest) n ds m w:=
 CY rfl rfl hb (λa ha=>by simp[execOp,ha.eval hx,ha.eval hy,hr]) h
theorem XC{z:Operand}{vz:Value}(hx:ev m x=some vx)(hy:ev m y=some vy)(hz:ev m z=some vz)
 (hr:(Instr.mapUpdate t vx vy vz).run P w= .ok () w')
 (h:WL P ops Q rest n ds m w'):WL P ops Q (⟨none,.mapUpdate t x y z,ty,pos,aft,none⟩::rest) n ds m w:=
 XD rfl rfl (λa ha=>by simp[execOp,ha.eval hx,ha.eval hy,ha.eval hz,hr]) h
theorem XB
 (hr:(Instr.makeMap t none).run P w= .ok v w') (hb:Nat.blt d n=true)
 (h:WL P ops Q rest n ds ((d,v)::m) w'):WL P ops Q (⟨some d,.makeMap t none,ty,pos,aft,none⟩::rest) n ds m w:=
 CY rfl rfl hb (λa _=>by simp[execOp,hr]) h
theorem RV(hx:ev m x=some vx)
 (hr:(Instr.makeInterface t vx).run P w= .ok v w) (hb:Nat.blt d n=true)
 (h:WL P ops Q rest n ds ((d,v)::m) w):WL P ops Q (⟨some d,.makeInterface t x,ty,pos,aft,none⟩::rest) n ds m w:=
 CY rfl rfl hb (λa ha=>by simp[execOp,ha.eval hx,hr]) h
theorem Aej{o:Oper}(ho:o.op= .panic x)(hg:o.guard=none)(hx:ev m x=some vx)
 (hr:(Instr.panic vx:Sem Value).run P w= .halt (.panic v) w)
 (h:∀a,Loc n ds m a->Q (.panic [{v,recovered:=false}]) a w):WL P ops Q (o::rest) n ds m w:=
 λa ha=>wpList_plain hg λK hK=>by
  unfold Oper.wp;have:(execOp a.eval o).run P w= .halt (.panic v) w:=by simp[execOp,ho,ha.eval hx,hr,Result.andThen]
  rw[this,Oper.upon_panic];exact h a ha
def End(R:Value->World->Prop)(S:List PanicEntry->World->Prop):Ending->World->Prop
 | .returned v,w=>R v w
 | .panicked ch,w=>S ch w
 | .outgrown,_=>False
def GB(P:Program)(f:FuncId):Prop:=∀args w,(callFunc f args).run P w= .ok (.enter f args) w
theorem Af{args:Array Operand}{ats:Array TypeId}{R:Value->World->Prop}{S:List PanicEntry->World->Prop}
 (hc:GB P f) (ha':evs m args.toList=some vs) (hb:Nat.blt d n=true) (hcall:Calls P f vs.toArray w (End R S))
 (hR:∀v w',R v w'->WL P ops Q rest n ds ((d,v)::m) w') (hS:∀ch w',S ch w'->∀a,Loc n ds m a->Q (.panic ch) a w'):
 WL P ops Q (⟨some d,.call {callee:=.value (.func f),args:=args,argTypes:=ats},ty,pos,aft,none⟩::rest) n ds m w:=
 λa ha=>wpList_plain rfl λK hK=>by
  have h1:args.map a.eval=vs.toArray:=DB.mp (by simpa using ha.evals ha');have:(execOp a.eval ⟨some d,.call {callee:=.value (.func f),args:=args,argTypes:=ats},ty,pos,aft,none⟩).run P w= .ok (.enter f vs.toArray) w:=by
   simp[execOp,resolve,invoke,Deferred.ofValue,Act.eval,h1,hc _ _]
  unfold Oper.wp;rw[this,Oper.upon_enter];refine hcall.mono ?_;intro e w' he;cases e with
  |returned v=>exact hK _ _ (hR v w' he _ (ha.put d v hb))
  |panicked ch=>exact hS ch w' he a ha
  |outgrown=>exact he.elim
theorem OJ{first cap:Array Value}{args:Array Operand}{ats:Array TypeId}{R:Value->World->Prop}{S:List PanicEntry->World->Prop}
 (hx:ev m x=some (.func (.func f) first cap))
 (hc:GB P f) (ha':evs m args.toList=some vs) (hb:Nat.blt d n=true) (hcall:Calls P f (first++vs.toArray++cap) w (End R S))
 (hR:∀v w',R v w'->WL P ops Q rest n ds ((d,v)::m) w') (hS:∀ch w',S ch w'->∀a,Loc n ds m a->Q (.panic ch) a w'):
 WL P ops Q (⟨some d,.call {callee:=.value x,args:=args,argTypes:=ats},ty,pos,aft,none⟩::rest) n ds m w:=
 λa ha=>wpList_plain rfl λK hK=>by
  have h1:args.map a.eval=vs.toArray:=DB.mp (by simpa using ha.evals ha');have:(execOp a.eval ⟨some d,.call {callee:=.value x,args:=args,argTypes:=ats},ty,pos,aft,none⟩).run P w= .ok (.enter f (first++vs.toArray++cap)) w:=by
   simp[execOp,resolve,invoke,Deferred.ofValue,ha.eval hx,h1,hc _ _]
  unfold Oper.wp;rw[this,Oper.upon_enter];refine hcall.mono ?_;intro e w' he;cases e with
  |returned v=>exact hK _ _ (hR v w' he _ (ha.put d v hb))
  |panicked ch=>exact hS ch w' he a ha
  |outgrown=>exact he.elim
theorem IP{fn:Fn}{first cap:Array Value}(hx:ev m x=some (.func fn first cap))
 (h:WL P ops Q rest n ({target:=.fn fn cap,args:=first++#[]}::ds) m w):
 WL P ops Q (⟨none,.defer {callee:=.value x,args:=#[],argTypes:=#[]},ty,pos,aft,none⟩::rest) n ds m w:=
 λa ha=>wpList_plain rfl λK hK=>by
  have:(execOp a.eval ⟨none,.defer {callee:=.value x,args:=#[],argTypes:=#[]},ty,pos,aft,none⟩).run P w= .ok (.defer {target:=.fn fn cap,args:=first++#[]}) w:=by
   simp[execOp,resolve,Deferred.ofValue,ha.eval hx]
  unfold Oper.wp;rw[this,Oper.upon_defer];exact hK _ _ (h _ (ha.defer _))
variable{a:Act}{id:Nat}{A:Act->World->Prop}
theorem AD(h:Q (.exit id) a w):Exit.then A Q (.exit id) a w:=h
theorem C9(h:Q .ret a w):Exit.then A Q .ret a w:=h
variable{ch:List PanicEntry}
theorem Ap(h:Q (.panic ch) a w):Exit.then A Q (.panic ch) a w:=h
theorem Ak(h:A a w):Exit.then A Q .normal a w:=h
theorem GL(h:Q .ret a w):Exit.inBlock id Q .ret a w:=h
theorem Gd(h:Q (.panic ch) a w):Exit.inBlock id Q (.panic ch) a w:=h
theorem BK(h:Q .normal a w):Exit.inBlock id Q .normal a w:=h
variable{j:Nat}
theorem OS(hj:Nat.beq j id=false)(h:Q (.exit j) a w):Exit.inBlock id Q (.exit j) a w:=by
 have:j≠id:=λe=>by subst e;simp[KG]at hj
 simp[Exit.inBlock,this,h]
theorem B_(h:Q .normal a w):Exit.inBlock id Q (.exit id) a w:=by simp[Exit.inBlock,h]
def IQ:Nat->List Value->Env
 |_,[]=>[]
 |i,v::vs=>(i,v)::IQ (i+1) vs
theorem Yg:∀(vs:List Value) (k i:Nat) (v:Value),(IQ k vs).get i=some v->k<=i/\vs[i-k]? =some v
 |[],_,_,_,h=>by simp[IQ,Env.get]at h
 |u::vs,k,i,v,h=>by
  simp only[IQ,Env.get]at h;cases hb:Nat.beq k i with
  |true=>
   rw[hb]at h;have:=AH hb;subst this;cases h;simp
  |false=>
   rw[hb]at h;have⟨h1,h2⟩:=Yg vs (k+1) i v h;refine⟨by omega,?_⟩;have:i-k=(i-(k+1))+1:=by omega
   rw[this];simpa using h2
theorem Km(n:Nat)(vs:List Value)(hn:vs.length<=n):
 Loc n [] (IQ 0 vs) {tmps:=vs.toArray++Array.replicate (n-vs.toArray.size) undef,defers:=[]}:=by
 refine⟨by simp;omega,rfl,?_⟩;intro i v hv;have⟨_,h2⟩:=Yg vs 0 i v hv;simp only[Nat.sub_zero]at h2;have hi:i<vs.length:=(C3.1 h2).1;have h3:vs[i]=v:=(C3.1 h2).2;simp[Array.getElem?_append,hi,h3]
variable{R:Ending->World->Prop}{c:Code}{fn:Func}
theorem AE
 (n:Nat) (hf:P.funcs[f]? =some fn) (hb:fn.body=some c) (hn:fn.ntmps=n) (hl:Nat.ble vs.length n=true)
 (h:W P c (bodyPost P fn R) n [] (IQ 0 vs) w):Calls P f vs.toArray w R:=by
 subst hn;exact calls_of_wp hf hb (h _ (by simpa using Km fn.ntmps vs (CK hl)))
theorem IU
 (n:Nat) (hf:P.funcs[f]? =some fn) (hb:fn.body=some c) (hn:fn.ntmps=n) (hl:Nat.ble vs.length n=true)
 (h:W P c (bodyPostD P fn R) n [] (IQ 0 vs) w):Calls P f vs.toArray w R:=by
 subst hn;exact calls_of_wp_defers hf hb (h _ (by simpa using Km fn.ntmps vs (CK hl)))
theorem Y9{u:FrameMode}
 (n:Nat) (hf:P.funcs[f]? =some fn) (hb:fn.body=some c) (hn:fn.ntmps=n) (hl:Nat.ble vs.length n=true)
 (h:W P c (bodyPost P fn R) n [] (IQ 0 vs) w):CallsD P f vs.toArray u w λe u' w'=>u'=u/\R e w':=by
 subst hn;exact callsD_of_wp hf hb (h _ (by simpa using Km fn.ntmps vs (CK hl)))
theorem Ch{t:Tmp}(hres:fn.results=#[.tmp t])(ha:Loc n [] m a)(hv:m.get t=some v)(h:R (.returned v) w):
 bodyPost P fn R .ret a w:=
 bodyPost_ret (v:=v) (by rw[results_tmp hres];simp[HL,ha.slot t v hv]) ha.defers h
theorem GV{t t':Tmp}{v':Value}(hres:fn.results=#[.tmp t,.tmp t'])(ha:Loc n [] m a)(hv:m.get t=some v)(hv':m.get t'=some v')
 (h:R (.returned (.tuple #[v,v'])) w):bodyPost P fn R .ret a w:=
 bodyPost_ret (v:=.tuple #[v,v']) (by rw[results_tmp2 hres];simp[HL,ha.slot t v hv,ha.slot t' v' hv']) ha.defers h
theorem B9(hres:fn.results=#[])(ha:Loc n [] m a)(h:R (.returned (.tuple #[])) w):
 bodyPost P fn R .normal a w:=
 bodyPost_end (results_none hres _ _ _) ha.defers h
theorem A8(ha:Loc n [] m a)(h:R (.panicked ch) w):bodyPost P fn R (.panic ch) a w:=
 ⟨ha.defers,h⟩
end
def At(w:World)(b o:Nat)(cs:List Value):Prop:=∀j v,cs[j]? =some v->w.cell? ⟨b,o+j,none⟩=some v
def Blk(w:World)(b:Nat)(cs:List Value)(t:TypeId):Prop:=w.heap[b]? =some (.cells cs.toArray t (0,0))
variable{t:TypeId}{cs:List Value}{b:Nat}{w:World}
theorem Blk.lt(h:Blk w b cs t):b<w.heap.size:=(FG.1 h).1
theorem Blk.cell(h:Blk w b cs t)(o:Nat):w.cell? ⟨b,o,none⟩=cs[o]? :=by
 unfold Blk at h;simp[World.cell?,h]
theorem Blk.at_(h:Blk w b cs t)(o n:Nat):At w b o ((cs.drop o).take n):=by
 intro j v hv;rw[h.cell];rw[Ea]at hv;split at hv
 ·simpa using hv
 ·cases hv
variable{o:Nat}
theorem At.sub(h:At w b o cs)(i n:Nat):At w b (o+i) ((cs.drop i).take n):=by
 intro j v hv;rw[Ea]at hv;split at hv
 ·rw[He]at hv;rw[Fe];exact h _ _ hv
 ·cases hv
structure Fr(O:Nat->Prop)(w:World)(O':Nat->Prop)(w':World):Prop where
 os:w'.os=w.os
 tape:w'.tape=w.tape
 output:w'.output=w.output
 size:w.heap.size<=w'.heap.size
 blk:∀b,b<w.heap.size->¬O b->w'.heap[b]? =w.heap[b]?
 own:∀b,O' b->O b\/w.heap.size<=b
theorem Fr.refl(O:Nat->Prop)(w:World):Fr O w O w:=⟨rfl,rfl,rfl,Ay _,λ_ _ _=>rfl,λ_ h=>.inl h⟩
variable{w':World}{O:Nat->Prop}
theorem Fr.trans{O' O'':Nat->Prop}{w'':World}(h:Fr O w O' w')(k:Fr O' w' O'' w''):Fr O w O'' w'':=by
 refine⟨k.os.trans h.os,k.tape.trans h.tape,k.output.trans h.output,AX h.size k.size,?_,?_⟩
 ·intro b hb hn;rw[k.blk b (BB hb h.size) (λho=>(h.own b ho).elim hn (λhl=>by omega)),h.blk b hb hn]
 ·intro b hb;rcases k.own b hb with h1|h1
  ·exact h.own b h1
  ·exact .inr (AX h.size h1)
theorem Fr.alloc(O:Nat->Prop)(w:World)(o:Obj):Fr O w O (w.alloc o):=
 ⟨rfl,rfl,rfl,by simp,λb hb _=>heap_alloc_old w o b hb,λ_ h=>.inl h⟩
variable{U' U:Nat->Prop}
theorem Fr.drop(h:Fr U w U' w')(hu:∀b,U b->O b):Fr O w O w':=
 ⟨h.os,h.tape,h.output,h.size,λb hb hn=>h.blk b hb (λho=>hn (hu b ho)),λ_ h=>.inl h⟩
structure Own(O:Nat->Prop)(w:World)(b:Nat)(cs:List Value)(t:TypeId):Prop where
 blk:Blk w b cs t
 out:¬O b
theorem Fr.keep{O':Nat->Prop}(h:Fr O w O' w')(k:Own O w b cs t):Own O' w' b cs t:=
 ⟨(h.blk b k.blk.lt k.out).trans k.blk,λho=>(h.own b ho).elim k.out (λhl=>by have:=k.blk.lt;omega)⟩
theorem Own.alloc(hO:∀b,O b->b<w.heap.size):Own O (w.alloc (.cells cs.toArray t)) w.heap.size cs t:=
 ⟨heap_alloc_new w _,λh=>absurd (hO _ h) (by omega)⟩
theorem Cf:Blk (w.alloc (.cells cs.toArray t)) w.heap.size cs t:=heap_alloc_new w _
section
variable{P:Program}{w:World}
structure AC(P:Program)(t:TypeId)(agg:Bool)(n:Nat):Prop where
 agg:∀w,(isAgg t).run P w= .ok agg w
 size:∀w,(sizeOf t).run P w= .ok n w
variable{v:Value}{n:Nat}
theorem Ai(ht:AC P t false n)(h:w.cell? ⟨b,o,none⟩=some v):(loadVar t ⟨b,o,none⟩).run P w= .ok v w:=by
 simp[loadVar,ht.agg,h]
theorem AS(ht:AC P t true n)(hl:cs.length=n)(h:At w b o cs):(loadVar t ⟨b,o,none⟩).run P w= .ok (.agg cs.toArray) w:=by
 have:=run_loadCells_list (P:=P) w ⟨b,o,none⟩ cs (λj v hv=>by rw[Addr.add_lit];exact h j v hv);rw[hl]at this;simp[loadVar,ht.agg,ht.size,this]
def Ci(cs:List Value)(o:Nat)(vs:List Value):List Value:=cs.take o++vs++cs.drop (o+vs.length)
variable{vs:List Value}
theorem Acs(h:o+vs.length<=cs.length):(Ci cs o vs).length=cs.length:=by
 simp[Ci];omega
variable{agg:Bool}{u:TypeId}
theorem CG(ht:AC P t agg n)(hv:v.cells=vs.toArray)(hn:vs.length=n)(h1:∀x∈vs,x.oneCell'=true)
 (hb:Blk w b cs u) (hl:o+vs.length<=cs.length):
 (storeVar t ⟨b,o,none⟩ v).run P w= .ok () (w.setRow b (Ci cs o vs).toArray):=by
 have hs:=run_storeCells_at P b o u vs 0 cs.toArray w hb (by simpa using hl) h1;simp only[Hf]at hs;simp[storeVar,ht.size,hv,hn,hs,Ci]
theorem Blk.setRow(h:Blk w b cs t)(cs':List Value):Blk (w.setRow b cs'.toArray) b cs' t:=setRow_heap w b cs.toArray cs'.toArray t (0,0) h
theorem E8(b:Nat)(c:Array Value):(w.setRow b c).heap.size=w.heap.size:=by simp[World.setRow]
theorem Fr.setRow(c:Array Value)(hb:O b):Fr O w O (w.setRow b c):=
 ⟨rfl,rfl,rfl,by simp,λk _ hn=>setRow_other w b k c (λe=>hn (e▸hb)),λ_ h=>.inl h⟩
def Ax(P:Program)(s k off:Nat):Prop:=∀w b o,(Instr.fieldAt s (.pointer (some ⟨b,o,none⟩)) k).run P w= .ok (.pointer (some ⟨b,o+off,none⟩)) w
theorem fA{s k off:Nat}{fs:Array Field}{f:Field}(hs:P.underlying s=some (.struct fs))(hf:fs[k]? =some f)(hz:∀w,(sizeOf f.type).run P w= .ok n w)(ho:f.offset=off)(hn:(n==0)=false):Ax P s k off:=by
 intro w b o;have hn':¬n=0:=by simpa using hn
 simp[Instr.fieldAt,run_underlying hs,hf,Instr.sureAddr,fieldPlace,hz,hn',Addr.add_lit,ho]
variable{e cap len:Nat}
theorem Dy{t:Nat}{i:Int}(ht:P.underlying t=some (.slice e))(he:AC P e agg n)(h0:0<=i)(h1:i<len):
 (Instr.indexAt t (.slice (some ⟨b,o,none⟩) len cap) (.int .i64 i)).run P w= .ok (.pointer (some ⟨b,o+i.toNat*n,none⟩)) w:=by
 simp[Instr.indexAt,asIntOf,run_underlying ht,h0,h1,he.size,Addr.add_lit]
variable{ty:TypeId}
theorem AM{e:TypeId}{a:Option Addr}(ht:P.underlying t=some (.slice e)):(Builtin.len_ #[t] ty #[.slice a len cap]).run P w= .ok (.int .i64 len) w:=by
 simp[Builtin.len_,run_underlying ht,goInt]
theorem GR{s:ByteArray}(ht:P.underlying t=some .string):(Builtin.len_ #[t] ty #[.string s]).run P w= .ok (.int .i64 s.size) w:=by
 simp[Builtin.len_,run_underlying ht,goInt]
variable{z:Value}
theorem OQ{e:TypeId}{i:TypeInfo}{size bytes:Nat}(ht:P.underlying t=some (.slice e))(hi:P.info? e=some i)(hz:i.zero=some z)
 (hsize:i.size=size) (hby:i.bytes=bytes) (hzs:z.cells.size=size)
 {xs:List Value} (hown:w.ownsRow 0 e size v n xs) {x:Value}{m:Nat}{news:List Value} (hs:Src P size u x m news w)
 (h63:n+m<=maxLen) (hbytes:(n+m)*bytes<=140737488355328):
 ∃v' w',(Builtin.append_ #[t,u] ty #[v,x]).run P w= .ok v' w'/\w'.ownsRow 0 e size v' (n+m) (xs++news)/\w.grownBy w' v.ownBlock/\
  (v'.ownBlock=v.ownBlock\/v'.ownBlock=some w.heap.size)/\(0<m->v'.ownBlock≠none):=by
 subst hsize hby;have hsmall:n+m<=9223372036854775807:=by simp only[maxLen]at h63;omega
 have hl:=hs.newsLen;have hlen:(xs++news).length=(n+m)*i.size:=by rw[Bh,hown.1,hl,Dq]
 have grown:∀(old:Nat),old<n+m->
  (w.drew.alloc (.cells ((xs++news).toArray++Builtin.zeroCells z.cells (grownCap w (n+m) old e-(n+m))) e)).ownsRow 0 e i.size
   (.slice (some ⟨w.heap.size,0,none⟩) (n+m) (grownCap w (n+m) old e)) (n+m) (xs++news)/\
  ∀row,w.grownBy (w.drew.alloc (.cells ((xs++news).toArray++Builtin.zeroCells z.cells (grownCap w (n+m) old e-(n+m))) e)) row:=by
  intro old ho;have hge:=grownCap_ge w (n+m) old e;have hcm:grownCap w (n+m) old e<=maxLen:=grownCap_le_maxLen w (n+m) old e h63;refine⟨⟨hlen,.inr ⟨w.heap.size,_,_,rfl,AW _,heap_alloc_new w.drew _,hge,hcm,?_,?_⟩⟩,λrow=>⟨rfl,rfl,rfl,by simp,λk hk _=>heap_alloc_old w.drew _ k hk⟩⟩
  ·simp only[Array.size_append,GF,size_zeroCells,hzs,hlen,<-Dq];congr 1;omega
  ·simp only[Array.toList_append];rw[<-hlen];exact HP
 rcases hown.2 with⟨rfl,rfl⟩|⟨g,cap,cur,rfl,hbg,hg,hnc,hcm,hcs,htake⟩
 ·have hx:xs=[]:=E2 (by simpa using hown.1);subst hx;by_cases hm:m=0
  ·subst hm;have hn:news=[]:=E2 (by simpa using hl);subst hn;refine⟨.slice none 0 0,w,?_,World.ownsRow_nil w 0 e i.size,⟨rfl,rfl,rfl,Ay _,λ_ _ _=>rfl⟩,.inl V,by simp⟩;rcases hs.kind with⟨e',hk⟩|hk<;>simp[Builtin.append_,run_underlying ht,run_underlying hk,sizeOf,typeInfo,hi,hs.len,hs.cells]
  ·have hr:=run_append_grow_src (P:=P) w t u ty e i z ht hi hz none 0 0 [] (by simp[Builtin.firstCells]) x m news hs (by omega) (by omega) (growslice_fits (by omega) hbytes);have hgr:=grown 0 (by omega);exact⟨_,_,hr,hgr.1,hgr.2 _,.inr V,λ_=>by simp[Value.ownBlock]⟩
 ·by_cases hroom:n+m<=cap
  ·have hfit:n*i.size+news.length<=cur.size:=by rw[hl,hcs,<-Dq];exact EL _ hroom
   have hst:=run_storeCells_at P g (n*i.size) e news 0 cur w hg (by simpa using hfit) hs.one;simp only[Hf]at hst;refine⟨.slice (some ⟨g,0,none⟩) (n+m) cap,w.setRow g (cur.toList.take (n*i.size)++news++cur.toList.drop (n*i.size+news.length)).toArray,?_,
    ⟨hlen,.inr ⟨g,cap,_,rfl,hbg,setRow_heap w g cur _ e _ hg,hroom,hcm,?_,?_⟩⟩,⟨rfl,rfl,rfl,by simp,λk _ hk=>setRow_other w g k _ (λe=>hk (by simp[Value.ownBlock,e]))⟩,.inl rfl,λ_=>by simp[Value.ownBlock]⟩
   ·rcases hs.kind with⟨e',hk⟩|hk<;>simp[Builtin.append_,run_underlying ht,run_underlying hk,sizeOf,typeInfo,hi,hs.len,hroom,hs.cells,Addr.add_lit,hst]
   ·simp only[GF,Bh,HO,ID,FH];omega
   ·rw[htake,<-hlen];exact HP
  ·have holds:∀j u,xs[j]? =some u->w.drew.cell? ((⟨g,0,none⟩:Addr).add j)=some u:=by simpa using hown.cells (g:=g) rfl
   have hr:=run_append_grow_src (P:=P) w t u ty e i z ht hi hz (some ⟨g,0,none⟩) n cap xs (run_firstCells_some w.drew i.size n ⟨g,0,none⟩ n cap xs hown.1 holds) x m news hs (by omega) (by omega) (growslice_fits (by omega) hbytes);have hgr:=grown cap (by omega);exact⟨_,_,hr,hgr.1,hgr.2 _,.inr V,λ_=>by simp[Value.ownBlock]⟩
end
open Go.Proofs Go.Proofs.Tryz
theorem AQ:AC prog 3 false 1:=⟨isAgg3,sizeOf3⟩
theorem Cm:AC prog 4 false 1:=⟨isAgg4,sizeOf4⟩
theorem iy5:AC prog 5 false 1:=⟨isAgg5,sizeOf5⟩
theorem AK:AC prog 9 false 1:=⟨isAgg9,sizeOf9⟩
theorem V2:AC prog 22 false 1:=⟨isAgg22,sizeOf22⟩
theorem EQ:AC prog 26 false 1:=⟨isAgg26,sizeOf26⟩
theorem Qd:AC prog 27 false 1:=⟨isAgg27,sizeOf27⟩
theorem Qe:AC prog 28 false 1:=⟨isAgg28,sizeOf28⟩
theorem Qf:AC prog 29 false 1:=⟨isAgg29,sizeOf29⟩
theorem Jn:AC prog 30 false 1:=⟨isAgg30,sizeOf30⟩
theorem Gp:AC prog 31 false 1:=⟨isAgg31,sizeOf31⟩
theorem Gq:AC prog 32 false 1:=⟨isAgg32,sizeOf32⟩
theorem Hv:AC prog 33 false 1:=⟨isAgg33,sizeOf33⟩
theorem Hw:AC prog 34 false 1:=⟨isAgg34,sizeOf34⟩
theorem Ev:AC prog 36 true 10:=⟨isAgg36,sizeOf36⟩
theorem Nm:AC prog 37 false 1:=⟨isAgg37,sizeOf37⟩
theorem Aw0:AC prog 43 true 9:=⟨isAgg43,sizeOf43⟩
theorem Ei:AC prog 44 false 1:=⟨isAgg44,sizeOf44⟩
theorem Gr:AC prog 46 false 1:=⟨isAgg46,sizeOf46⟩
theorem ER:AC prog 48 true 4:=⟨isAgg48,sizeOf48⟩
theorem Ew:AC prog 56 false 1:=⟨isAgg56,sizeOf56⟩
theorem Kh:AC prog 57 false 1:=⟨isAgg57,sizeOf57⟩
theorem Aae:AC prog 59 true 2:=⟨isAgg59,sizeOf59⟩
theorem Is:AC prog 61 true 2:=⟨isAgg61,sizeOf61⟩
theorem Ex:AC prog 63 true 5:=⟨isAgg63,sizeOf63⟩
theorem FP:AC prog 64 false 1:=⟨isAgg64,sizeOf64⟩
theorem Cr:AC prog 66 true 16:=⟨isAgg66,sizeOf66⟩
theorem Ki:AC prog 67 false 1:=⟨isAgg67,sizeOf67⟩
theorem Hx:AC prog 68 false 1:=⟨isAgg68,sizeOf68⟩
theorem Kj:AC prog 69 false 1:=⟨isAgg69,sizeOf69⟩
theorem It:AC prog 70 false 1:=⟨isAgg70,sizeOf70⟩
theorem Jo:AC prog 72 true 51:=⟨isAgg72,sizeOf72⟩
theorem Jp:AC prog 74 true 12:=⟨isAgg74,sizeOf74⟩
theorem Jq:AC prog 76 true 18:=⟨isAgg76,sizeOf76⟩
theorem Gs:AC prog 84 true 6:=⟨isAgg84,sizeOf84⟩
theorem Aq1:AC prog 85 false 1:=⟨isAgg85,sizeOf85⟩
theorem Aaf:AC prog 90 false 1:=⟨isAgg90,sizeOf90⟩
theorem Aqz:AC prog 131 false 1:=⟨isAgg131,sizeOf131⟩
theorem Ji:AC prog 140 true 27:=⟨isAgg140,sizeOf140⟩
theorem Jj:AC prog 144 true 29:=⟨isAgg144,sizeOf144⟩
theorem Jk:AC prog 149 false 1:=⟨isAgg149,sizeOf149⟩
theorem Gn:AC prog 151 true 18:=⟨isAgg151,sizeOf151⟩
theorem Hs:AC prog 157 true 5:=⟨isAgg157,sizeOf157⟩
theorem Ke:AC prog 160 false 1:=⟨isAgg160,sizeOf160⟩
theorem Ht:AC prog 162 true 2:=⟨isAgg162,sizeOf162⟩
theorem Kf:AC prog 170 true 2:=⟨isAgg170,sizeOf170⟩
theorem Jl:AC prog 182 true 18:=⟨isAgg182,sizeOf182⟩
theorem Aq0:AC prog 183 false 1:=⟨isAgg183,sizeOf183⟩
theorem Hu:AC prog 216 true 24:=⟨isAgg216,sizeOf216⟩
theorem Lp:AC prog 262 false 1:=⟨isAgg262,sizeOf262⟩
theorem Jm:AC prog 282 true 18:=⟨isAgg282,sizeOf282⟩
theorem Iq:AC prog 286 true 19:=⟨isAgg286,sizeOf286⟩
theorem Kg:AC prog 290 true 17:=⟨isAgg290,sizeOf290⟩
theorem Ir:AC prog 294 true 2:=⟨isAgg294,sizeOf294⟩
theorem Am{α β:Sort _}{γ:α->β->Prop}:∀(x:α) (y:β),False->γ x y:=λ_ _ h=>h.elim
inductive SN where
 |atom|test|type|expr|part|param|sort|source|ctch|instr|template|dfn|global|key|rule|accum|mode|output|swap|charMap|use|sheet
 deriving DecidableEq
inductive Ty where
 |int|bool|str
 |list (e:Ty)
 |ptr (e:Ty)
 |st (s:SN)
 deriving DecidableEq
def SN.fields:SN->List Ty
 | .atom=>[.int,.str]
 | .test=>[.int,.str]
 | .type=>[.int,.int,.st .test,.str]
 | .expr=>[.int,.str,.str,.int,.st .atom,.int,.st .test,.st .type,.list .str,.list (.st .expr)]
 | .part=>[.str,.bool,.st .expr]
 | .param=>[.str,.st .type,.bool,.st .expr,.list (.st .instr)]
 | .sort=>[.st .expr,.bool,.bool,.str]
 | .source=>[.st .expr,.list (.st .sort)]
 | .ctch=>[.list .int,.list (.st .instr)]
 | .instr=>[.int,.str,.str,.list (.st .part),.list (.st .part),.bool,.st .expr,.st .expr,.st .type,.list (.st .sort),.list (.st .param),.list (.st .source),.list (.st .ctch),
  .list (.st .instr),.list (.st .instr),.int,.int]
 | .template=>[.list (.st .expr),.str,.list .str,.bool,.str,.list (.st .param),.list (.st .instr),.str,.int,.int,.int,.int]
 | .dfn=>[.str,.list (.st .param),.st .type,.st .expr,.str,.int,.int,.int]
 | .global=>[.str,.bool,.st .type,.bool,.st .expr,.list (.st .instr),.str,.int,.int,.int]
 | .key=>[.str,.list (.st .expr),.st .expr]
 | .rule=>[.list (.st .expr),.bool,.st .expr]
 | .accum=>[.str,.st .expr,.list (.st .rule)]
 | .mode=>[.str,.str,.bool,.bool,.str,.int]
 | .output=>[.str,.str,.bool,.bool,.list .str]
 | .swap=>[.int,.str]
 | .charMap=>[.str,.list (.st .swap)]
 | .use=>[.str,.ptr (.st .sheet),.int,.int]
 | .sheet=>[.str,.list (.st .use),.list (.st .template),.list (.st .dfn),.list (.st .global),.list (.st .key),.list (.st .accum),.list (.st .mode),.list (.st .output),.list (.st .charMap)]
def SN.size:SN->Nat
 | .atom=>2| .test=>2| .type=>5| .expr=>16| .part=>18| .param=>24| .sort=>19| .source=>17| .ctch=>2| .instr=>51| .template=>12| .dfn=>27| .global=>29
 | .key=>18| .rule=>18| .accum=>18| .mode=>6| .output=>5| .swap=>2| .charMap=>2| .use=>4| .sheet=>10
def Ty.size:Ty->Nat
 | .st s=>s.size
 |_=>1
def SN.deep:SN->Bool
 | .expr| .instr| .sheet=>true
 |_=>false
inductive T where
 |int (n:Int)
 |bool (b:Bool)
 |str (s:ByteArray)
 |list (l:List T)
 |nil
 |ptr (t:T)
 |agg (s:SN) (l:List T)
def AP(n:Int):Prop:=-9223372036854775808<=n/\n<=9223372036854775807
def VS(cs:List Value):Prop:=∃g cap,cs=[Value.slice g 0 cap]
variable{cap:Nat}
theorem Aa8{g:Option Addr}:VS [Value.slice g 0 cap]=True:=eq_true ⟨g,cap,rfl⟩
mutual
def Rep(w:World)(S:Nat->Prop):T->Ty->List Value->Prop
 | .int n,.int,cs=>cs=[.int .i64 n]/\AP n
 | .bool b,.bool,cs=>cs=[.bool b]
 | .str s,.str,cs=>cs=[.string s]/\s.size<=maxLen
 | .list l,.list e,cs=>(VS cs/\l=[])\/∃b o cap,cs=[.slice (some ⟨b,o,none⟩) l.length cap]/\S b/\b<w.heap.size/\l.length<=cap/\cap<=maxLen/\RepL w S e l b o
 | .nil,.ptr _,cs=>cs=[.pointer none]
 | .ptr t,.ptr e,cs=>∃b o ds,cs=[.pointer (some ⟨b,o,none⟩)]/\S b/\b<w.heap.size/\At w b o ds/\ds.length=e.size/\Rep w S t e ds
 | .agg s' l,.st s,cs=>s'=s/\cs.length=s.size/\RepF w S l s.fields 0 cs
 |_,_,_=>False
def RepL(w:World)(S:Nat->Prop)(e:Ty):List T->Nat->Nat->Prop
 |[],_,_=>True
 |t::l,b,o=>(∃ds,At w b o ds/\ds.length=e.size/\Rep w S t e ds)/\RepL w S e l b (o+e.size)
def RepF(w:World)(S:Nat->Prop):List T->List Ty->Nat->List Value->Prop
 |[],[],_,_=>True
 |t::l,f::fs,o,cs=>Rep w S t f ((cs.drop o).take f.size)/\RepF w S l fs (o+f.size) cs
 |_,_,_,_=>False
end
section
variable{w:World}{S:Nat->Prop}
theorem Rep.int_inv{t:T}(h:Rep w S t .int cs):∃n,t= .int n/\cs=[.int .i64 n]/\AP n:=by
 cases t<;>simp only[Rep]at h;exact⟨_,rfl,h.1,h.2⟩
theorem Rep.bool_inv{t:T}(h:Rep w S t .bool cs):∃b,t= .bool b/\cs=[.bool b]:=by
 cases t<;>simp only[Rep]at h;exact⟨_,rfl,h⟩
theorem Rep.str_inv{t:T}(h:Rep w S t .str cs):∃s,t= .str s/\cs=[.string s]/\s.size<=maxLen:=by
 cases t<;>simp only[Rep]at h;exact⟨_,rfl,h.1,h.2⟩
theorem Rep.list_inv{t:T}{e:Ty}(h:Rep w S t (.list e) cs):∃l,t= .list l/\
 ((VS cs/\l=[])\/∃b o cap,cs=[.slice (some ⟨b,o,none⟩) l.length cap]/\S b/\b<w.heap.size/\l.length<=cap/\cap<=maxLen/\RepL w S e l b o):=by
 cases t<;>simp only[Rep]at h;exact⟨_,rfl,h⟩
theorem Rep.ptr_inv{t:T}{e:Ty}(h:Rep w S t (.ptr e) cs):(t= .nil/\cs=[.pointer none])\/
 ∃t' b o ds,t= .ptr t'/\cs=[.pointer (some ⟨b,o,none⟩)]/\S b/\b<w.heap.size/\At w b o ds/\ds.length=e.size/\Rep w S t' e ds:=by
 cases t<;>simp only[Rep]at h
 ·exact .inl ⟨rfl,h⟩
 ·obtain⟨b,o,ds,h⟩:=h;exact .inr ⟨_,b,o,ds,rfl,h⟩
theorem Rep.st_inv{t:T}{s:SN}(h:Rep w S t (.st s) cs):∃l,t= .agg s l/\cs.length=s.size/\RepF w S l s.fields 0 cs:=by
 cases t<;>simp only[Rep]at h;obtain⟨rfl,h⟩:=h;exact⟨_,rfl,h⟩
variable{l:List T}
theorem RepF.cons_inv{f:Ty}{fs:List Ty}(h:RepF w S l (f::fs) o cs):
 ∃t l',l=t::l'/\Rep w S t f ((cs.drop o).take f.size)/\RepF w S l' fs (o+f.size) cs:=by
 cases l<;>simp only[RepF]at h;exact⟨_,_,rfl,h⟩
theorem RepF.nil_inv(h:RepF w S l [] o cs):l=[]:=by
 cases l<;>simp only[RepF]at h;rfl
theorem RepL.get{e:Ty}:∀{l:List T}{b o:Nat},RepL w S e l b o->∀{i:Nat}{t:T},l[i]? =some t->∃ds,At w b (o+i*e.size) ds/\ds.length=e.size/\Rep w S t e ds
 |t::l,b,o,h,0,u,hi=>by
  simp only[RepL]at h;simp at hi;subst hi;simpa using h.1
 |t::l,b,o,h,i+1,u,hi=>by
  simp only[RepL]at h;simp at hi;have:=RepL.get h.2 hi;rwa[show o+e.size+i*e.size=o+(i+1)*e.size from by rw[Dq];omega]at this
end
theorem At.agree(h:w'.heap[b]? =w.heap[b]?)(k:At w b o cs):At w' b o cs:=by
 intro j v hj;rw[World.cell?_of_block (w:=w) h];exact k j v hj
mutual
theorem Rep.agree{w w':World}{S S':Nat->Prop}(hS:∀b,S b->b<w.heap.size->S' b/\b<w'.heap.size/\w'.heap[b]? =w.heap[b]?):∀(t:T) (f:Ty) (cs:List Value),Rep w S t f cs->Rep w' S' t f cs
 | .int n,f,cs,h=>by cases f<;>simp only[Rep]at h⊢;exact h
 | .bool n,f,cs,h=>by cases f<;>simp only[Rep]at h⊢;exact h
 | .str n,f,cs,h=>by cases f<;>simp only[Rep]at h⊢;exact h
 | .nil,f,cs,h=>by cases f<;>simp only[Rep]at h⊢;exact h
 | .list l,f,cs,h=>by
  cases f<;>simp only[Rep]at h⊢;rcases h with h|⟨b,o,cap,h1,h2,h3,h4,h5,h6⟩
  ·exact .inl h
  ·have:=hS b h2 h3;exact .inr ⟨b,o,cap,h1,this.1,this.2.1,h4,h5,RepL.agree hS _ l b o this.2.2 h6⟩
 | .ptr t,f,cs,h=>by
  cases f<;>simp only[Rep]at h⊢;obtain⟨b,o,ds,h1,h2,h3,h4,h5,h6⟩:=h;have:=hS b h2 h3;exact⟨b,o,ds,h1,this.1,this.2.1,h4.agree this.2.2,h5,Rep.agree hS t _ ds h6⟩
 | .agg s l,f,cs,h=>by
  cases f<;>simp only[Rep]at h⊢;exact⟨h.1,h.2.1,RepF.agree hS l _ _ cs h.2.2⟩
theorem RepL.agree{w w':World}{S S':Nat->Prop}(hS:∀b,S b->b<w.heap.size->S' b/\b<w'.heap.size/\w'.heap[b]? =w.heap[b]?)(e:Ty):∀(l:List T) (b o:Nat),w'.heap[b]? =w.heap[b]? ->RepL w S e l b o->RepL w' S' e l b o
 |[],_,_,_,_=>by simp only[RepL]
 |t::l,b,o,hb,h=>by
  simp only[RepL]at h⊢;obtain⟨⟨ds,h1,h2,h3⟩,h4⟩:=h;exact⟨⟨ds,h1.agree hb,h2,Rep.agree hS t e ds h3⟩,RepL.agree hS e l b _ hb h4⟩
theorem RepF.agree{w w':World}{S S':Nat->Prop}(hS:∀b,S b->b<w.heap.size->S' b/\b<w'.heap.size/\w'.heap[b]? =w.heap[b]?):∀(l:List T) (fs:List Ty) (o:Nat) (cs:List Value),RepF w S l fs o cs->RepF w' S' l fs o cs
 |[],fs,o,cs,h=>by cases fs<;>simp only[RepF]at h⊢
 |t::l,fs,o,cs,h=>by
  cases fs<;>simp only[RepF]at h⊢;exact⟨Rep.agree hS t _ _ h.1,RepF.agree hS l _ _ cs h.2⟩
end
theorem Amu(cs:List Value)(o n i k:Nat)(h:i+k<=n):(((cs.drop o).take n).drop i).take k=(cs.drop (o+i)).take k:=by
 rw[List.drop_take,List.take_take,List.drop_drop,O9 (by omega)]
def num(n:Nat):List UInt8:=if n<128 then[n.toUInt8]else(n%128+128).toUInt8::num (n/128)
decreasing_by omega
def C2(n:Int):Nat:=(if 0<=n then 2*n.toNat else 2*(-(n+1)).toNat+1)%18446744073709551616
structure WS where
 b:List UInt8
 tab:List ByteArray
 nest:Nat
def WS.num(s:WS)(n:Nat):WS:={s with b:=s.b++Sx.num n}
def WS.str(s:WS)(x:ByteArray):WS:=
 match s.tab.findIdx? (λy=>decide (y=x))with
 |some i=>s.num i
 |none=>{s with tab:=s.tab++[x]}.num s.tab.length
mutual
def enc(most long:Nat):T->WS->Option WS
 | .int n,s=>some (s.num (C2 n))
 | .bool b,s=>some (s.num b.toNat)
 | .str x,s=>some (s.str x)
 | .list l,s=>Bk most long l (s.num l.length)
 | .nil,s=>some (s.num 0)
 | .ptr t,s=>enc most long t (s.num 1)
 | .agg sn l,s=>
  match sn.deep with
  |true=>if most<s.nest+1\/long<s.b.length then none else(Bk most long l {s with nest:=s.nest+1}).map λs'=>{s' with nest:=s.nest}
  |false=>Bk most long l s
def Bk(most long:Nat):List T->WS->Option WS
 |[],s=>some s
 |t::l,s=>(enc most long t s).bind (Bk most long l)
end
mutual
def T.wt:T->Nat
 | .str x=>x.size+1
 | .list l=>Bf l+1
 | .ptr t=>t.wt+1
 | .agg _ l=>Bf l+1
 |_=>1
def Bf:List T->Nat
 |[]=>0
 |t::l=>t.wt+Bf l
end
def bv(b:UInt8):Value:=.int .u8 b.toNat
def MapTab(w:World)(bm:Nat)(tab:List ByteArray):Prop:=
 ∃es clock,w.heap[bm]? =some (.map es clock)/\es.toList.map (·.key)=tab.map Value.string/\es.toList.map (·.val)=(List.range tab.length).map λ(i:Nat)=>Value.int .i64 (i:Int)
def Aw(v:Value)(b:Nat):Prop:=v.ownBlock=some b
structure Aek(p most long:Nat)(s:WS)(O:Nat->Prop)(w:World)(vb vt:Value)(bm:Nat):Prop where
 blk:Blk w p [vb,vt,.map (some bm),.int .i64 s.nest,.int .i64 most,.int .i64 long] 185
 rb:w.ownsRow 0 5 1 vb s.b.length (s.b.map bv)
 rt:w.ownsRow 0 9 1 vt s.tab.length (s.tab.map Value.string)
 mp:MapTab w bm s.tab
 op:O p
 om:O bm
 ob:∀k,Aw vb k->O k/\k≠p/\k≠bm/\¬Aw vt k
 ot:∀k,Aw vt k->O k/\k≠p/\k≠bm
 pm:p≠bm
structure WSt(w0:World)(S:Nat->Prop)(p most long:Nat)(s:WS)(O:Nat->Prop)(w:World):Prop where
 inp:∀b,S b->b<w0.heap.size->¬O b/\w.heap[b]? =w0.heap[b]?
 lt:∀b,O b->b<w.heap.size
 base:w0.heap.size<=w.heap.size
 mem:∃vb vt bm,Aek p most long s O w vb vt bm
 tabs:∀x∈s.tab,x.size<=maxLen
 nodup:s.tab.Nodup
variable{v:Value}
theorem Oq{v':Value}(h:w.grownBy w' v.ownBlock)(hv:v'.ownBlock=v.ownBlock\/v'.ownBlock=some w.heap.size):Fr (Aw v) w (Aw v') w':=by
 refine⟨h.os,h.tape,h.output,h.size,λb hb hn=>h.block b hb (λe=>hn e.symm),λb hb=>?_⟩;rcases hv with hv|hv
 ·exact .inl (hv.symm.trans hb)
 ·have:some w.heap.size=some b:=hv.symm.trans hb;exact .inr (by cases this;exact Ay _)
variable{n e:Nat}
theorem Cn{size:Nat}{xs:List Value}(h:w.ownsRow 0 e size v n xs)(hb:∀b,Aw v b->w'.heap[b]? =w.heap[b]?):w'.ownsRow 0 e size v n xs:=by
 refine⟨h.1,?_⟩;rcases h.2 with h2|⟨g,cap,cur,hv,hg,hh,r⟩
 ·exact .inl h2
 ·exact .inr ⟨g,cap,cur,hv,hg,by rw[hb g (by simp[Aw,hv,Value.ownBlock])];exact hh,r⟩
theorem C8{size:Nat}{xs:List Value}(h:w.ownsRow 0 e size v n xs)(hb:Aw v b):b<w.heap.size:=(h.lt b hb).2
variable{tab:List ByteArray}{bm:Nat}
theorem MapTab.agree(h:MapTab w bm tab)(hb:w'.heap[bm]? =w.heap[bm]?):MapTab w' bm tab:=by
 obtain⟨es,clock,h1,h2⟩:=h;exact⟨es,clock,hb.trans h1,h2⟩
section
variable{w0:World}{S:Nat->Prop}{p most long:Nat}{s:WS}{O:Nat->Prop}{w:World}
theorem WSt.other(h:WSt w0 S p most long s O w)(f:Fr U w U' w')(hu:∀b,U b->¬O b/\w0.heap.size<=b):WSt w0 S p most long s O w':=by
 have hO:∀b,O b->w'.heap[b]? =w.heap[b]? :=λb hb=>f.blk b (h.lt b hb) (λhu'=>(hu b hu').1 hb);refine⟨λb hb hl=>⟨(h.inp b hb hl).1,?_⟩,λb hb=>BB (h.lt b hb) f.size,AX h.base f.size,?_,h.tabs,h.nodup⟩
 ·rw[f.blk b (BB hl h.base) (λhu'=>by have:=(hu b hu').2;omega)];exact(h.inp b hb hl).2
 ·obtain⟨vb,vt,bm,m⟩:=h.mem;exact⟨vb,vt,bm,(hO p m.op).trans m.blk,Cn m.rb (λb hb=>hO b (m.ob b hb).1),Cn m.rt (λb hb=>hO b (m.ot b hb).1),m.mp.agree (hO bm m.om),m.op,m.om,m.ob,m.ot,m.pm⟩
theorem WSt.alloc(h:WSt w0 S p most long s O w)(o:Obj):WSt w0 S p most long s O (w.alloc o):=
 h.other (Fr.alloc (λ_=>False) w o) (λ_ hf=>hf.elim)
theorem WSt.own_new(h:WSt w0 S p most long s O w)(cs:List Value)(t:TypeId):Own O (w.alloc (.cells cs.toArray t)) w.heap.size cs t:=Own.alloc h.lt
def grow(O:Nat->Prop)(w w':World)(b:Nat):Prop:=O b\/(w.heap.size<=b/\b<w'.heap.size)
theorem Fr.grow{w:World}(f:Fr U w U' w')(hu:∀b,U b->O b):Fr O w (grow O w w') w':=
 ⟨f.os,f.tape,f.output,f.size,λb hb hn=>f.blk b hb (λh=>hn (hu b h)),λ_ hb=>hb.elim .inl (λh=>.inr h.1)⟩
theorem W5(a b:Value)(cs:List Value):Ci (a::cs) 0 [b]=b::cs:=by simp[Ci]
theorem WSt.put(h:WSt w0 S p most long s O w):∃vb,w.cell? ⟨p,0,none⟩=some vb/\w.ownsRow 0 5 1 vb s.b.length (s.b.map bv)/\
 ∀vb' w' n,Fr (Aw vb) w (Aw vb') w'->w'.ownsRow 0 5 1 vb' (s.b++num n).length ((s.b++num n).map bv)->
  ∃w'' O',(storeVar 22 ⟨p,0,none⟩ vb').run prog w'= .ok () w''/\Fr O w O' w''/\WSt w0 S p most long (s.num n) O' w'':=by
 obtain⟨vb,vt,bm,m⟩:=h.mem;refine⟨vb,by rw[m.blk.cell];rfl,m.rb,?_⟩;intro vb' w' n f r;have hp:p<w.heap.size:=h.lt p m.op;have hbp:w'.heap[p]? =w.heap[p]? :=f.blk p hp (λho=>(m.ob p ho).2.1 rfl);have hblk:Blk w' p [vb,vt,.map (some bm),.int .i64 s.nest,.int .i64 most,.int .i64 long] 185:=hbp.trans m.blk;have hne:∀k,Aw vb' k->k≠p/\k≠bm/\¬Aw vt k:=by
  intro k hk;rcases f.own k hk with h1|h1
  ·exact⟨(m.ob k h1).2.1,(m.ob k h1).2.2.1,(m.ob k h1).2.2.2⟩
  ·refine⟨by omega,?_,?_⟩
   ·have:=h.lt bm m.om;omega
   ·intro ht;have:=C8 m.rt ht;omega
 have hvb:vb'.cells=[vb'].toArray/\vb'.oneCell'=true:=by
  rcases r.2 with⟨rfl,_⟩|⟨g,cap,cur,rfl,_⟩<;>exact⟨rfl,rfl⟩
 have hst:=CG (P:=prog) (w:=w') (t:=22) (n:=1) (agg:=false) (b:=p) (o:=0) (v:=vb') V2 hvb.1 rfl (by simpa using hvb.2) hblk (by simp);rw[W5]at hst;have f2:Fr O w (grow O w w') w':=f.grow (λb hb=>(m.ob b hb).1);have f3:Fr (grow O w w') w' (grow O w w') (w'.setRow p [vb',vt,.map (some bm),.int .i64 s.nest,.int .i64 most,.int .i64 long].toArray):=Fr.setRow _ (.inl m.op);have hoth:∀b,b≠p->(w'.setRow p [vb',vt,.map (some bm),.int .i64 s.nest,.int .i64 most,.int .i64 long].toArray).heap[b]? =w'.heap[b]? :=λb hb=>setRow_other w' p b _ hb;refine⟨_,_,hst,f2.trans f3,?_,?_,?_,?_,h.tabs,h.nodup⟩
 ·intro b hb hl;have hi:=h.inp b hb hl;have hbl:b<w.heap.size:=BB hl h.base;refine⟨λho=>ho.elim hi.1 (λhg=>by omega),?_⟩;rw[hoth b (λe=>hi.1 (e▸m.op)),f.blk b hbl (λho=>hi.1 (m.ob b ho).1)];exact hi.2
 ·intro b hb;simp only[E8];exact hb.elim (λho=>BB (h.lt b ho) f.size) (λhg=>hg.2)
 ·simp only[E8];exact AX h.base f.size
 ·have hvt:∀b,Aw vt b->w'.heap[b]? =w.heap[b]? :=λb hb=>f.blk b (C8 m.rt hb) (λho=>(m.ob b ho).2.2.2 hb);have hbm:w'.heap[bm]? =w.heap[bm]? :=f.blk bm (h.lt bm m.om) (λho=>(m.ob bm ho).2.2.1 rfl);refine⟨vb',vt,bm,hblk.setRow _,Cn r (λb hb=>hoth b (hne b hb).1),Cn m.rt (λb hb=>(hoth b (m.ot b hb).2.1).trans (hvt b hb)),m.mp.agree ((hoth bm (λe=>m.pm e.symm)).trans hbm),.inl m.op,.inl m.om,?_,?_,m.pm⟩
  ·intro k hk;refine⟨?_,(hne k hk).1,(hne k hk).2.1,(hne k hk).2.2⟩;rcases f.own k hk with h1|h1
   ·exact .inl (m.ob k h1).1
   ·exact .inr ⟨h1,C8 r hk⟩
  ·intro k hk;exact⟨.inl (m.ot k hk).1,(m.ot k hk).2⟩
end
section
variable{P:Program}{w:World}
theorem CS{n:Int}(h:AP n):IntKind.i64.wrap n=n:=by
 unfold AP at h;simp only[IntKind.wrap,IntKind.bits,IntKind.signed];simp only[Rf];by_cases hg:n%2 ^ 64>=(2 ^ (64-1):Int)
 ·rw[if_pos (by simpa using hg)];omega
 ·rw[if_neg (by simpa using hg)];omega
theorem DH{n:Int}(h0:0<=n)(h:n<18446744073709551616):IntKind.u64.wrap n=n:=by
 simp only[IntKind.wrap,IntKind.bits,IntKind.signed];simp only[On,FV,if_false];omega
theorem QX{n:Int}(h0:0<=n)(h:n<4294967296):IntKind.u32.wrap n=n:=by
 simp only[IntKind.wrap,IntKind.bits,IntKind.signed];simp only[On,FV,if_false];omega
theorem IA(n:Int):IntKind.u8.wrap n=n%256:=by
 simp only[IntKind.wrap,IntKind.bits,IntKind.signed];simp only[On,FV,if_false];omega
variable{k' k:IntKind}
theorem De{s:TypeId}{ds:TypeDesc}{n:Int}(hs:∀w,(underlying s).run P w= .ok ds w)(ht:∀w,(underlying t).run P w= .ok (.int k) w):
 (convert s t (.int k' n)).run P w= .ok (.int k (k.wrap n)) w:=by
 cases ds<;>simp[convert,hs,ht,Conv.intToInt]
variable{z:Value}
theorem G5{e:TypeId}(ht:P.underlying t=some (.slice e))(he:AC P e false 1)(hz:∀w,(zeroValue e).run P w= .ok z w)(hz1:z.cells.size=1)(hv:v.cells=#[v]):
 (Instr.buildSlice t 1 #[(0,v)]).run P w= .ok (.slice (some ⟨w.heap.size,0,none⟩) 1 1) (w.alloc (.cells [v].toArray e)):=by
 obtain⟨z0,hz0⟩:∃z0,z.cells=#[z0]:=Rc.mp hz1;have hr:Array.range 1=#[0]:=rfl;simp[Instr.buildSlice,run_underlying ht,he.size,hz,hz0,Instr.fill,hv,newRow,hr]
variable{vs:List Value}{u:TypeId}
theorem LB{e:TypeId}{c:Nat}(hu:P.underlying u=some (.slice e))(hb:Blk w b vs e)(hn:vs.length=n)(h1:∀x∈vs,x.oneCell'=true):
 Src P 1 u (.slice (some ⟨b,0,none⟩) n c) n vs w:=
 Src.ofSlice w hu _ _ _ vs (by omega) (λj v hj=>by rw[Addr.add_lit,hb.cell];simpa using hj) h1
theorem Asb(n:Nat)(h:n<256):n|||128=n%128+128:=by
 have key:∀r,r<128->128|||r=128+r:=λr hr=>by
  have:=Nat.two_pow_add_eq_or_of_lt (i:=7) hr 1;simpa using this.symm
 by_cases h1:n<128
 ·rw[Nat.or_comm,key n h1];omega
 ·obtain⟨r,rfl⟩:∃r,n=128+r:=⟨n-128,by omega⟩;rw[<-key r (by omega),Nat.or_comm,<-Nat.or_assoc,Nat.or_self,key r (by omega)];omega
theorem Ae9(n:Nat)(h:n<256):(Op.intBits .or .u8 n 128).run P w= .ok (.int .u8 ((n%128+128:Nat):Int)) w:=by
 have h1:(BitVec.ofInt 8 (n:Int)|||BitVec.ofInt 8 128).toNat=n%128+128:=by
  simp only[BitVec.toNat_or,LW];rw[<-Asb n h];congr 1;omega
 show Result.ok (Value.int .u8 (IntKind.u8.wrap ((BitVec.ofInt 8 (n:Int)|||BitVec.ofInt 8 128).toNat:Nat))) w=_;rw[h1,IA];congr 2;omega
end
variable{k:IntKind}{P:Program}
theorem D2{a b:Int}{c:Bool}(h:c=decide (b<a)):(binOp .gtr t (.int k a) (.int k b)).run P w= .ok (.bool c) w:=by
 subst h;cases k<;>rfl
theorem CR{a b:Int}{c:Bool}(h:c=decide (a<b)):(binOp .lss t (.int k a) (.int k b)).run P w= .ok (.bool c) w:=by
 subst h;cases k<;>rfl
theorem NJ{a b:Int}{c:Bool}(h:c=decide (b<=a)):(binOp .geq t (.int k a) (.int k b)).run P w= .ok (.bool c) w:=by
 subst h;cases k<;>rfl
theorem E0{a b:Int}{c:Bool}(h:c=decide (a=b)):(binOp .eql t (.int k a) (.int k b)).run P w= .ok (.bool c) w:=by
 subst h;cases k<;>rfl
theorem I1{a b:Int}{c:Bool}(h:c= !decide (a=b)):(binOp .neq t (.int k a) (.int k b)).run P w= .ok (.bool c) w:=by
 subst h;cases k<;>rfl
variable{d:Nat}{k':IntKind}
theorem Q9{c:Int}(hc:c=(d:Int))(hd:Nat.ble d k.bits=true):
 (binOp .shr t (.int k (n:Int)) (.int k' c)).run P w= .ok (.int k ((n/2 ^ d:Nat):Int)) w:=by
 subst hc;have hd':=CK hd;have h1:¬((d:Int)<0):=by omega
 have h2:Int.fdiv (n:Int) (2 ^ d)=((n/2 ^ d:Nat):Int):=by
  rw[Xj _ (Int.le_of_lt (Int.pow_pos (by decide)))];rw[Int.natCast_ediv,Int.natCast_pow];rfl
 show(Op.shift .shr k n k' d).run P w=_;simp only[Op.shift,h1,if_false,Do,O9 hd',h2];rfl
theorem FE(h:n<128):num n=[n.toUInt8]:=by rw[num,if_pos h]
theorem Jz(h:128<=n):num n=(n%128+128).toUInt8::num (n/128):=by rw[num,if_neg (by omega)]
theorem HC(n:Nat):0<(num n).length:=by
 rw[num];split<;>simp
theorem Abc:∀(k n:Nat),n<128 ^ (k+1)->(num n).length<=k+1
 |0,n,h=>by rw[FE (by simpa using h)];simp
 |k+1,n,h=>by
  by_cases h1:n<128
  ·rw[FE h1];simp
  ·rw[Jz (by omega)];have:=Abc k (n/128) (by rw[Nat.div_lt_iff_lt_mul (by omega)];rw[IK]at h;exact h);simp;omega
theorem EY(h:n<18446744073709551616):(num n).length<=10:=Abc 9 n (by omega)
theorem Ie(n:Nat)(h:n<256):bv n.toUInt8= .int .u8 (n:Int):=by
 have:n.toUInt8.toNat=n:=by simp[Nat.toUInt8,II h]
 simp only[bv,this]
theorem Jf{x:Option Value×Nat×Nat}(h:(P.info? t).map (λi=>(i.zero,i.size,i.bytes))=some x):∃i,P.info? t=some i/\i.zero=x.1/\i.size=x.2.1/\i.bytes=x.2.2:=by
 cases hi:P.info? t with
 |none=>rw[hi]at h;cases h
 |some i=>rw[hi]at h;cases h;exact⟨i,rfl,rfl,rfl,rfl⟩
theorem ZT:(prog.info? 5).map (λi=>(i.zero,i.size,i.bytes))=some (some (.int .u8 0),1,1):=by kernel_rfl
theorem Aqt:(prog.info? 9).map (λi=>(i.zero,i.size,i.bytes))=some (some (.string ⟨#[]⟩),1,16):=by kernel_rfl
theorem G8:AC prog 5 false 1:=iy5
theorem FT:AC prog 9 false 1:=AK
theorem Bo:AC prog 3 false 1:=AQ
theorem D4:AC prog 4 false 1:=Cm
theorem C_:AC prog 22 false 1:=V2
theorem Mz(l:List UInt8):∀u∈l.map bv,u.oneCell'=true:=by
 intro u hu;obtain⟨x,_,rfl⟩:=BY.1 hu;rfl
variable{ty u:TypeId}{xs:List UInt8}
theorem E7{x:Value}{ys:List UInt8}(r:w.ownsRow 0 5 1 v xs.length (xs.map bv))(hs:Src prog 1 u x ys.length (ys.map bv) w)
 (hl:xs.length+ys.length<=2 ^ 46):∃v' w',(Builtin.append_ #[22,u] ty #[v,x]).run prog w= .ok v' w'/\
  w'.ownsRow 0 5 1 v' (xs++ys).length ((xs++ys).map bv)/\Fr (Aw v) w (Aw v') w':=by
 obtain⟨i,hi,hz,hs1,hb⟩:=Jf ZT;obtain⟨v',w',h1,h2,h3,h4,_⟩:=OQ (P:=prog) (ty:=ty) (e:=5) (bytes:=1) (z:=.int .u8 0) underlying22 hi hz hs1 hb rfl r hs (by simp only[maxLen];omega) (by omega);exact⟨v',w',h1,by simpa using h2,Oq h3 h4⟩
theorem Ph{n:Int}:(convert 164 5 (.int k n)).run prog w= .ok (.int .u8 (n%256)) w:=by
 rw[<-IA];exact De runUnderlying164 runUnderlying5
theorem Lt(hv:v.cells=#[v]):(Instr.buildSlice 22 1 #[(0,v)]).run prog w= .ok (.slice (some ⟨w.heap.size,0,none⟩) 1 1) (w.alloc (.cells [v].toArray 5)):=
 G5 underlying22 G8 zeroValue5 rfl hv
theorem L4{size:Nat}{xs:List Value}(h:w.ownsRow 0 e size v n xs)(o:Obj):(w.alloc o).ownsRow 0 e size v n xs:=
 Cn h (λb hb=>heap_alloc_old w o b (C8 h hb))
theorem WM(n:Nat):((n:Int)%256)=((n%256:Nat):Int):=by omega
def Row(w:World)(v:Value)(xs:List UInt8):Prop:=
 w.ownsRow 0 5 1 v xs.length (xs.map bv)\/∃b,v= .slice (some ⟨b,0,none⟩) xs.length xs.length/\b<w.heap.size/\At w b 0 (xs.map bv)
theorem Row.agree(h:Row w v xs)(hs:w.heap.size<=w'.heap.size)(hb:∀b,Aw v b->w'.heap[b]? =w.heap[b]?):Row w' v xs:=by
 rcases h with h|⟨b,rfl,h1,h2⟩
 ·exact .inl (Cn h hb)
 ·exact .inr ⟨b,rfl,BB h1 hs,h2.agree (hb b V)⟩
theorem Row.lt(h:Row w v xs)(hb:Aw v b):b<w.heap.size:=by
 rcases h with h|⟨b',rfl,h1,_⟩
 ·exact C8 h hb
 ·have:b'=b:=by simpa[Aw,Value.ownBlock]using hb
  omega
theorem Row.alloc(h:Row w v xs)(o:Obj):Row (w.alloc o) v xs:=h.agree (by simp) (λb hb=>heap_alloc_old w o b (h.lt hb))
theorem Yf{x:Value}{ys:List UInt8}(r:Row w v xs)(hs:Src prog 1 u x ys.length (ys.map bv) w)
 (hl:xs.length+ys.length<=2 ^ 46) (hy:0<ys.length):∃v' w',(Builtin.append_ #[22,u] ty #[v,x]).run prog w= .ok v' w'/\
  w'.ownsRow 0 5 1 v' (xs++ys).length ((xs++ys).map bv)/\Fr (Aw v) w (Aw v') w':=by
 rcases r with r|⟨b,rfl,hb,ha⟩
 ·exact E7 r hs hl
 ·obtain⟨i,hi,hz,hs1,hby⟩:=Jf ZT;have holds:∀j u,(xs.map bv)[j]? =some u->w.drew.cell? ((⟨b,0,none⟩:Addr).add j)=some u:=λj u hj=>by rw[Addr.add_lit];exact ha j u hj
  have hlen:(xs.map bv).length=xs.length*i.size:=by rw[hs1];simp
  have hr:=run_append_grow_src (P:=prog) w 22 u ty 5 i (.int .u8 0) underlying22 hi hz (some ⟨b,0,none⟩) xs.length xs.length (xs.map bv) (run_firstCells_some w.drew i.size xs.length ⟨b,0,none⟩ xs.length xs.length (xs.map bv) hlen holds) x ys.length (ys.map bv) (by rw[hs1];exact hs)
   (by omega) (by omega) (growslice_fits (by omega) (by rw[show i.bytes=1 from hby];omega))
  have hm:xs.length+ys.length<=maxLen:=by simp only[maxLen];omega
  have hge:xs.length+ys.length<=grownCap w (xs.length+ys.length) xs.length 5:=grownCap_ge w (xs.length+ys.length) xs.length 5;have hcm:=grownCap_le_maxLen w (xs.length+ys.length) xs.length 5 hm;refine⟨_,_,hr,⟨by simp,.inr ⟨w.heap.size,_,_,by rw[Bh],AW _,heap_alloc_new w.drew _,by rw[Bh];exact hge,hcm,?_,?_⟩⟩,?_⟩
  ·have hz1:(Value.int .u8 0).cells.size=1:=rfl;simp only[Array.size_append,GF,size_zeroCells,Bh,Rt,hz1];omega
  ·rw[Array.toList_append,IE];have:(xs++ys).length*1=(xs.map bv++ys.map bv).length:=by simp
   rw[this];exact HP
  ·exact⟨rfl,rfl,rfl,by simp,λk hk _=>heap_alloc_old w.drew _ k hk,λk hk=>.inr (by
    have:w.heap.size=k:=by simpa[Aw,Value.ownBlock]using hk
    omega)⟩
theorem Y7(r:Row w v xs)(hn:n<18446744073709551616)(hl:xs.length+(num n).length<=2 ^ 45):
 Calls prog 97 [v,.int .u64 n].toArray w (End (λv' w'=>w'.ownsRow 0 5 1 v' (xs++num n).length ((xs++num n).map bv)/\Fr (Aw v) w (Aw v') w') (λ_ _=>False)):=by
 refine AE 20 func97 V V V ?_;refine Ac (Ab ?_);refine Ah V V (Aj [(0,v),(1,.int .u64 n)] ⟨V,V,trivial⟩ ?_);refine Ac (AF (BP (ι:=Value×Nat×List UInt8×World) (λi=>[(0,i.1),(1,.int .u64 i.2.1)])
  (λi w'=>w'=i.2.2.2/\Row w' i.1 i.2.2.1/\Fr (Aw v) w (Aw i.1) w'/\i.2.2.1++num i.2.1=xs++num n/\i.2.1<18446744073709551616) (λi=>i.2.1)
  (v,n,xs,w) ⟨V,V,trivial⟩ ⟨rfl,r,Fr.refl _ _,rfl,hn⟩ ?_))
 rintro⟨v1,n1,xs1,_⟩ w1 ⟨rfl,r1,f1,e1,hn1⟩;simp only at r1 f1 e1 hn1⊢;have hlen:xs1.length+(num n1).length=xs.length+(num n).length:=by rw[<-Bh,e1,Bh]
 have hnp:=HC n1;refine Ac (Ac (Ab (Aa V V (Al V V V V (Ag ?_)))));refine AN V (λht=>AG λa ha=>Ak ?_) (λhf=>BC λa ha=>AD (AD (B_ (Ak ?_))))
 ·have hge:128<=n1:=by simp at ht;omega
  refine(Ac (AF (Ab (Aa V V (Aa V V (BH V Ph V ?_)))))) a ha;rw[WM];refine Al V V (Ae9 (n1%256) (by omega)) V ?_;rw[show n1%256%128+128=n1%128+128 by omega];refine BR V (Lt V) V ?_;obtain⟨v2,w2,hr,r2,f2⟩:=Yf (w:=w1.alloc (.cells [Value.int .u8 ((n1%128+128:Nat):Int)].toArray 5)) (ty:=22) (ys:=[(n1%128+128).toUInt8]) (r1.alloc _)
   (LB (n:=1) (c:=1) underlying22 (by rw[CA,Ie _ (by omega)];exact Cf) V (Mz _)) (by simp;omega) (by simp)
  refine CX V V hr V (Ah V V (A2 λa ha=>BK (Ak (Ab (Aa V V (Al V V (Q9 (d:=7) V V) V (Ah V V (A2 λa ha=>Ak ?_)))) a ha))));refine⟨(v2,n1/128,xs1++[(n1%128+128).toUInt8],w2),ha.weak ⟨rfl,?_,trivial⟩,⟨rfl,.inl r2,?_,?_,?_⟩,?_⟩
  ·rfl
  ·exact f1.trans ((Fr.alloc _ _ _).trans f2)
  ·rw[<-e1,Jz hge];simp
  ·show n1/128<_;omega
  ·show n1/128<n1;omega
 ·have hlt:n1<128:=by simp at hf;omega
  refine(Ac (Ab (Aa V V (Aa V V (BH V Ph V ?_))))) a ha;rw[show((n1:Int)%256)=(n1:Int)by omega];refine BR V (Lt V) V ?_;obtain⟨v2,w2,hr,r2,f2⟩:=Yf (w:=w1.alloc (.cells [Value.int .u8 (n1:Int)].toArray 5)) (ty:=22) (ys:=[n1.toUInt8]) (r1.alloc _)
   (LB (n:=1) (c:=1) underlying22 (by rw[CA,Ie _ (by omega)];exact Cf) V (Mz _)) (by simp;omega) (by simp)
  refine CX V V hr V (Ah V V (A2 λa ha=>Ak (AJ (λa ha=>Ch V ha V ⟨?_,f1.trans ((Fr.alloc _ _ _).trans f2)⟩) a ha)));rw[<-e1,FE hlt];exact r2
theorem JQ(r:w.ownsRow 0 5 1 v xs.length (xs.map bv))(hn:n<18446744073709551616)(hl:xs.length+(num n).length<=2 ^ 45):
 Calls prog 97 [v,.int .u64 n].toArray w (End (λv' w'=>w'.ownsRow 0 5 1 v' (xs++num n).length ((xs++num n).map bv)/\Fr (Aw v) w (Aw v') w') (λ_ _=>False)):=Y7 (.inl r) hn hl
def WS.use(s:WS):Nat:=s.b.length+s.tab.length+s.nest
def Eg:List PanicEntry:=[{v:=.iface 89 (.agg #[]),recovered:=false}]
def ptr(p:Nat):Value:=.pointer (some ⟨p,0,none⟩)
def RW(w0:World)(S:Nat->Prop)(p most long:Nat)(O:Nat->Prop)(w:World)(r:Option WS)(v:Value)(w':World):Prop:=
 v= .tuple #[]/\∃s' O',r=some s'/\Fr O w O' w'/\WSt w0 S p most long s' O' w'
def JN(w0:World)(S:Nat->Prop)(p most long:Nat)(O:Nat->Prop)(w:World)(r:Option WS)(nest:Nat)(ch:List PanicEntry)(w':World):Prop:=
 ch=Eg/\r=none/\∃s' O',Fr O w O' w'/\WSt w0 S p most long s' O' w'/\nest<s'.nest/\s'.nest<=2 ^ 41
def Mt(w0:World)(S:Nat->Prop)(p most long:Nat)(f:FuncId)(v:Value)(g:WS->Option WS)(k:Nat):Prop:=
 ∀s O w,WSt w0 S p most long s O w->s.use+11*k<=2 ^ 40->
  Calls prog f [ptr p,v].toArray w (End (RW w0 S p most long O w (g s)) (JN w0 S p most long O w (g s) s.nest))
def E_:Ty->List Value->Value
 | .st _,cs=>.agg cs.toArray
 |_,[v]=>v
 |_,_=>undef
def B0(w0:World)(S:Nat->Prop)(p most long:Nat)(f:FuncId)(ty:Ty)(t:T):Prop:=
 ∀cs,Rep w0 S t ty cs->Mt w0 S p most long f (E_ ty cs) (enc most long t) t.wt
theorem G_(n:Int):C2 n<18446744073709551616:=by unfold C2;omega
variable{s:WS}
theorem Ed(h:n<18446744073709551616):(s.num n).use<=s.use+10:=by
 have:=EY h;simp only[WS.num,WS.use,Bh];omega
variable{i:Nat}
theorem Ka{l:List ByteArray}{x:ByteArray}(h:l.findIdx? (λy=>decide (y=x))=some i):i<l.length/\l[i]? =some x:=by
 rw[Xo]at h;obtain⟨h1,h2,_⟩:=h;refine⟨h1,?_⟩;rw[Bm h1];simpa using h2
theorem XF{x:ByteArray}(h:s.use<=2 ^ 40):(s.str x).use<=s.use+11:=by
 unfold WS.str;have ht:s.tab.length<=2 ^ 40:=by unfold WS.use at h;omega
 cases hi:s.tab.findIdx? (λy=>decide (y=x))with
 |none=>
  simp only;refine AX (Ed (by omega)) ?_;simp only[WS.use,Bh,Cg,DS];omega
 |some i=>
  simp only;have:=(Ka hi).1;exact AX (Ed (by omega)) (by omega)
theorem T.wt_pos(t:T):1<=t.wt:=by cases t<;>simp[T.wt]
theorem JL:∀l:List T,l.length<=Bf l
 |[]=>by simp[Bf]
 |t::l=>by have:=T.wt_pos t;have:=JL l;simp[Bf];omega
mutual
theorem PB{most long:Nat}:∀(t:T) (s s':WS),enc most long t s=some s'->s.use+11*t.wt<=2 ^ 40->s'.use<=s.use+11*t.wt/\s'.nest=s.nest
 | .int n,s,s',h,hu=>by
  simp only[enc,Option.some.injEq]at h;subst h;have:=Ed (s:=s) (G_ n);simp only[T.wt]at*;exact⟨by omega,rfl⟩
 | .bool b,s,s',h,hu=>by
  simp only[enc,Option.some.injEq]at h;subst h;have:=Ed (s:=s) (n:=b.toNat) (by cases b<;>decide);simp only[T.wt]at*;exact⟨by omega,rfl⟩
 | .str x,s,s',h,hu=>by
  simp only[enc,Option.some.injEq]at h;subst h;simp only[T.wt]at*;have:=XF (s:=s) (x:=x) (by omega);refine⟨by omega,?_⟩;unfold WS.str;split<;>rfl
 | .nil,s,s',h,hu=>by
  simp only[enc,Option.some.injEq]at h;subst h;have:=Ed (s:=s) (n:=0) (by decide);simp only[T.wt]at*;exact⟨by omega,rfl⟩
 | .ptr t,s,s',h,hu=>by
  simp only[enc]at h;have h1:=Ed (s:=s) (n:=1) (by decide);simp only[T.wt]at*;have:=PB t _ _ h (by omega);exact⟨by omega,this.2⟩
 | .list l,s,s',h,hu=>by
  simp only[enc]at h;simp only[T.wt]at*;have hl:=JL l;have h1:=Ed (s:=s) (n:=l.length) (by omega);have:=Gi l _ _ h (by omega);exact⟨by omega,this.2⟩
 | .agg sn l,s,s',h,hu=>by
  simp only[enc]at h;simp only[T.wt]at*;cases hd:sn.deep with
  |false=>
   rw[hd]at h;have:=Gi l _ _ h (by omega);exact⟨by omega,this.2⟩
  |true=>
   rw[hd]at h;simp only at h;split at h
   ·cases h
   ·simp only[BG]at h;obtain⟨u,h1,rfl⟩:=h;have:=Gi l _ _ h1 (by simp only[WS.use]at*;omega);simp only[WS.use]at*;exact⟨by omega,trivial⟩
theorem Gi{most long:Nat}:∀(l:List T) (s s':WS),Bk most long l s=some s'->s.use+11*Bf l<=2 ^ 40->s'.use<=s.use+11*Bf l/\s'.nest=s.nest
 |[],s,s',h,hu=>by simp only[Bk,Option.some.injEq]at h;subst h;exact⟨by omega,rfl⟩
 |t::l,s,s',h,hu=>by
  simp only[Bk,BV]at h;obtain⟨u,h1,h2⟩:=h;simp only[Bf]at*;have a:=PB t _ _ h1 (by omega);have b:=Gi l _ _ h2 (by omega);exact⟨by omega,b.2.trans a.2⟩
end
theorem Fj:Ax prog 185 0 0:=fA underlying185 rfl sizeOf22 rfl rfl
theorem MP:Ax prog 185 1 1:=fA underlying185 rfl sizeOf44 rfl rfl
theorem Zm:Ax prog 185 2 2:=fA underlying185 rfl sizeOf131 rfl rfl
theorem MQ:Ax prog 185 3 3:=fA underlying185 rfl sizeOf3 rfl rfl
theorem Anq:Ax prog 185 4 4:=fA underlying185 rfl sizeOf3 rfl rfl
theorem Anr:Ax prog 185 5 5:=fA underlying185 rfl sizeOf3 rfl rfl
theorem Atp{a:Int}:(binOp .shl t (.int .u64 a) (.int .u64 1)).run prog w= .ok (.int .u64 (IntKind.u64.wrap (a*2))) w:=rfl
theorem Atr{n:Int}(h:AP n):(binOp .shr t (.int .i64 n) (.int .u64 63)).run prog w= .ok (.int .i64 (if n<0 then-1 else 0)) w:=by
 have h2:Int.fdiv n 9223372036854775808=if n<0 then-1 else 0:=by
  rw[Xj _ (by decide)];unfold AP at h;split<;>omega
 show Result.ok (Value.int .i64 (Int.fdiv n 9223372036854775808)) w=_;rw[h2]
theorem Avx(m:Nat)(h:m<18446744073709551616):(BitVec.ofInt 64 (m:Int) ^^^ BitVec.ofInt 64 18446744073709551615).toNat=18446744073709551615-m:=by
 have h1:BitVec.ofInt 64 18446744073709551615=BitVec.allOnes 64:=by decide
 rw[h1,BitVec.xor_allOnes,BitVec.toNat_not,LW];omega
theorem Ae_(n:Int)(h:AP n)(w:World):
 (binOp .xor t (.int .u64 (IntKind.u64.wrap (IntKind.u64.wrap n*2))) (.int .u64 (IntKind.u64.wrap (if n<0 then-1 else 0)))).run prog w= .ok (.int .u64 (C2 n:Nat)) w:=by
 have hz:=G_ n;by_cases hn:n<0
 ·have h1:IntKind.u64.wrap (IntKind.u64.wrap n*2)=((2*n+18446744073709551616).toNat:Nat):=by
   unfold AP at h;have:IntKind.u64.wrap n=n+18446744073709551616:=by
    rw[show IntKind.u64.wrap n=n%18446744073709551616 by simp[IntKind.wrap,IntKind.bits,IntKind.signed]];omega
   rw[this,show∀a,IntKind.u64.wrap a=a%18446744073709551616 by intro a;simp[IntKind.wrap,IntKind.bits,IntKind.signed]];omega
  have h2:IntKind.u64.wrap (if n<0 then-1 else 0)=18446744073709551615:=by rw[if_pos hn];rfl
  rw[h1,h2];show Result.ok (Value.int .u64 (IntKind.u64.wrap ((BitVec.ofInt 64 ((2*n+18446744073709551616).toNat:Nat) ^^^ BitVec.ofInt 64 18446744073709551615).toNat:Nat))) w=_;rw[Avx _ (by unfold AP at h;omega)];have h3:18446744073709551615-(2*n+18446744073709551616).toNat=C2 n:=by
   unfold C2;unfold AP at h;rw[if_neg (by omega)];omega
  rw[h3,DH (by omega) (by omega)]
 ·have h1:IntKind.u64.wrap (IntKind.u64.wrap n*2)=((2*n).toNat:Nat):=by
   unfold AP at h;rw[DH (n:=n) (by omega) (by omega),DH (by omega) (by omega)];omega
  have h2:IntKind.u64.wrap (if n<0 then-1 else 0)=0:=by rw[if_neg hn];rfl
  rw[h1,h2];show Result.ok (Value.int .u64 (IntKind.u64.wrap ((BitVec.ofInt 64 ((2*n).toNat:Nat) ^^^ BitVec.ofInt 64 0).toNat:Nat))) w=_;have h3:(BitVec.ofInt 64 ((2*n).toNat:Nat) ^^^ BitVec.ofInt 64 0).toNat=C2 n:=by
   have:BitVec.ofInt 64 0=0#64:=by decide
   rw[this,Ol,LW];unfold C2;unfold AP at h;rw[if_pos (by omega)];omega
  rw[h3,DH (by omega) (by omega)]
variable{long most:Nat}{S:Nat->Prop}{w0:World}
theorem Yy{p:Nat}{n:Int}(hn:AP n):Mt w0 S p most long 218 (.int .i64 n) (λs=>some (s.num (C2 n))) 1:=by
 intro s O w hw hu;obtain⟨vb,hvb,hrb,hput⟩:=hw.put;refine AE 19 func218 V V V ?_;refine Ab (Aa V V (Aa V V (AR V V (Ad V (Fj _ _ _) V (Ae V (Ai C_ hvb) V ?_)))));refine Aa V V (BH V (De runUnderlying3 runUnderlying164) V (Al V V Atp V (Aa V V (Al V V (Atr hn) V (BH V (De runUnderlying3 runUnderlying164) V ?_)))));refine Al V V (Ae_ n hn _) V ?_;refine Af call97 V V (JQ hrb (G_ n) (by have:=EY (G_ n);simp only[WS.use]at hu;omega)) ?_ Am;rintro v' w1 ⟨r1,f1⟩;obtain⟨w2,O',hst,f2,hw2⟩:=hput v' w1 _ f1 r1;refine AR V V (Ad V (Fj _ _ _) V (An V V hst (A2 λa ha=>B9 V ha ⟨rfl,_,_,rfl,f2,hw2⟩)))
open Go.ChangeMaps (setBlock heap_setBlock_same heap_setBlock_other)
open Go.Maps (Keyed string_keyed)
theorem key9:Keyed prog 9:=string_keyed underlying9
theorem Gt{x:ByteArray}(h:x.size<=maxLen):keyOf prog 9 (.string x)=some (.string x.data.toList):=Go.WideMaps.keyOf_string_mk underlying9 h
theorem R3{es:List MapEntry}(hk:es.map (·.key)=tab.map Value.string)(ht:∀x∈tab,x.size<=maxLen):∀e∈es,∃l,keyOf prog 9 e.key=some l:=by
 intro e he;have:e.key∈tab.map Value.string:=by rw[<-hk];exact BY.2 ⟨e,he,rfl⟩
 obtain⟨x,hx,hxe⟩:=BY.1 this;exact⟨_,by rw[<-hxe];exact Gt (ht x hx)⟩
variable{j:Nat}
theorem QG{x:ByteArray}(hn:tab.Nodup)(hj:tab[j]? =some x):tab.findIdx? (λy=>decide (y=x))=some j:=by
 obtain⟨h1,h2⟩:=C3.1 hj;rw[Xo];refine⟨h1,by simp[h2],?_⟩;intro i hi;have hne:tab[i]≠x:=by
  intro e;exact(List.pairwise_iff_getElem.1 hn i j (by omega) h1 hi) (e.trans h2.symm)
 simp[hne]
theorem Au1{x:ByteArray}(h:x∉tab):tab.findIdx? (λy=>decide (y=x))=none:=by
 rw[Rr];intro y hy;have:y≠x:=λe=>h (e▸hy);simp[this]
theorem I0{es:Array MapEntry}{clock:Nat}(hb:w.heap[bm]? =some (.map es clock)):(getObj bm).run P w= .ok (.map es clock) w:=by
 simp only[getObj,Sem.run,hb]
theorem Au0{x:ByteArray}(h:MapTab w bm tab)(ht:∀x∈tab,x.size<=maxLen)(hn:tab.Nodup)(hx:x.size<=maxLen):
 (Instr.lookup 131 (.map (some bm)) (.string x) true).run prog w=
  .ok (match tab.findIdx? (λy=>decide (y=x))with|some j=>.tuple #[.int .i64 j,.bool true]|none=>.tuple #[.int .i64 0,.bool false]) w:=by
 obtain⟨es,clock,hb,hk,hv⟩:=h;have hkeys:=R3 hk ht;have hc:=λem=>key9.check w em (Gt hx);rcases key9.find w (Gt hx) es.toList hkeys with⟨hf,hno⟩|⟨j,e,hf,hj,he⟩
 ·have hnx:x∉tab:=by
   intro hm;have:Value.string x∈es.toList.map (·.key):=by rw[hk];exact BY.2 ⟨x,hm,rfl⟩
   obtain⟨e,he,hee⟩:=BY.1 this;exact hno e he hee
  rw[Au1 hnx];simp[Instr.lookup,runUnderlying131,I0 hb,hc,hf,zeroValue3]
 ·have htj:tab[j]? =some x:=by
   have h1:(tab.map Value.string)[j]? =some e.key:=by rw[<-hk];simp[hj]
   rw[he]at h1;simp only[Mg,BG,Value.string.injEq]at h1;obtain⟨y,hy,rfl⟩:=h1;exact hy
  have hval:e.val= .int .i64 (j:Int):=by
   have h1:((List.range tab.length).map λ(i:Nat)=>Value.int .i64 (i:Int))[j]? =some e.val:=by rw[<-hv];simp[hj]
   have hjl:=(C3.1 htj).1;simp[hjl]at h1;exact h1.symm
  rw[QG hn htj];simp[Instr.lookup,runUnderlying131,I0 hb,hc,hf,hval]
theorem Au2{x:ByteArray}(h:MapTab w bm tab)(ht:∀x∈tab,x.size<=maxLen)(hx:x.size<=maxLen)(hnx:x∉tab):
 ∃w',(Instr.mapUpdate 131 (.map (some bm)) (.string x) (.int .i64 tab.length)).run prog w= .ok () w'/\MapTab w' bm (tab++[x])/\Fr (λb=>b=bm) w (λb=>b=bm) w':=by
 obtain⟨es,clock,hb,hk,hv⟩:=h;have hkeys:=R3 hk ht;have hc:=key9.check w false (Gt hx);rcases key9.find w (Gt hx) es.toList hkeys with⟨hf,_⟩|⟨j,e,hf,hj,he⟩
 ·refine⟨setBlock w bm (.map (es.push ⟨.string x,.int .i64 tab.length,clock⟩) (clock+1)),?_,⟨_,_,heap_setBlock_same hb _,?_,?_⟩,⟨rfl,rfl,rfl,by simp[setBlock],λb _ hn=>heap_setBlock_other hb _ (λe=>hn e),λ_ h=>.inl h⟩⟩
  ·simp[Instr.mapUpdate,runUnderlying131,I0 hb,hc,hf,setBlock,setObj,Sem.run,hb]
  ·simp[hk]
  ·simp[hv,List.range_succ]
 ·exfalso;have h1:(tab.map Value.string)[j]? =some e.key:=by rw[<-hk];simp[hj]
  rw[he]at h1;simp only[Mg,BG,Value.string.injEq]at h1;obtain⟨y,hy,rfl⟩:=h1;exact hnx (BA hy)
theorem W6{c:Nat}{l:List ByteArray}(hb:Blk w b (l.map Value.string) 9)(hn:l.length=n):Src prog 1 44 (.slice (some ⟨b,0,none⟩) n c) n (l.map Value.string) w:=
 LB (P:=prog) (e:=9) underlying44 hb (by simpa using hn) (by
  intro u hu;obtain⟨x,_,rfl⟩:=BY.1 hu;rfl)
theorem So{x:Value}{xs ys:List ByteArray}(r:w.ownsRow 0 9 1 v xs.length (xs.map Value.string))(hs:Src prog 1 u x ys.length (ys.map Value.string) w)
 (hl:xs.length+ys.length<=2 ^ 42):∃v' w',(Builtin.append_ #[44,u] ty #[v,x]).run prog w= .ok v' w'/\
  w'.ownsRow 0 9 1 v' (xs++ys).length ((xs++ys).map Value.string)/\Fr (Aw v) w (Aw v') w':=by
 obtain⟨i,hi,hz,hs1,hb⟩:=Jf Aqt;obtain⟨v',w',h1,h2,h3,h4,_⟩:=OQ (P:=prog) (ty:=ty) (e:=9) (bytes:=16) (z:=.string ⟨#[]⟩) underlying44 hi hz hs1 hb rfl r hs (by simp only[maxLen];omega) (by omega);exact⟨v',w',h1,by simpa using h2,Oq h3 h4⟩
theorem V9{x:ByteArray}:(Instr.buildSlice 44 1 #[(0,.string x)]).run prog w= .ok (.slice (some ⟨w.heap.size,0,none⟩) 1 1) (w.alloc (.cells [Value.string x].toArray 9)):=
 G5 underlying44 FT zeroValue9 rfl rfl
theorem HI:AC prog 44 false 1:=Ei
theorem Adg:AC prog 131 false 1:=Aqz
theorem Acq(a b c:Value)(cs:List Value):Ci (a::b::cs) 1 [c]=a::c::cs:=by simp[Ci]
section
variable{w0:World}{S:Nat->Prop}{p most long:Nat}{s:WS}{O:Nat->Prop}{w:World}
theorem WSt.addTab(h:WSt w0 S p most long s O w){x:ByteArray}(hx:x.size<=maxLen)(hnx:x∉s.tab):∃vt bm w1,w.cell? ⟨p,1,none⟩=some vt/\w.cell? ⟨p,2,none⟩=some (.map (some bm))/\
 w.ownsRow 0 9 1 vt s.tab.length (s.tab.map Value.string)/\
 (Instr.mapUpdate 131 (.map (some bm)) (.string x) (.int .i64 s.tab.length)).run prog w= .ok () w1/\w1.cell? ⟨p,1,none⟩=some vt/\w1.ownsRow 0 9 1 vt s.tab.length (s.tab.map Value.string)/\
 ∀vt' w',Fr (Aw vt) w1 (Aw vt') w'->w'.ownsRow 0 9 1 vt' (s.tab++[x]).length ((s.tab++[x]).map Value.string)->
  ∃w'' O',(storeVar 44 ⟨p,1,none⟩ vt').run prog w'= .ok () w''/\Fr O w O' w''/\WSt w0 S p most long {s with tab:=s.tab++[x]} O' w'':=by
 obtain⟨vb,vt,bm,m⟩:=h.mem;obtain⟨w1,hr,hm1,f0⟩:=Au2 m.mp h.tabs hx hnx;have hp:p<w.heap.size:=h.lt p m.op;have k1:∀b,b≠bm->b<w.heap.size->w1.heap[b]? =w.heap[b]? :=λb hb hl=>f0.blk b hl hb;have hp1:Blk w1 p [vb,vt,.map (some bm),.int .i64 s.nest,.int .i64 most,.int .i64 long] 185:=(k1 p m.pm hp).trans m.blk;have r1:w1.ownsRow 0 9 1 vt s.tab.length (s.tab.map Value.string):=Cn m.rt (λb hb=>k1 b (m.ot b hb).2.2 (C8 m.rt hb));refine⟨vt,bm,w1,by rw[m.blk.cell];rfl,by rw[m.blk.cell];rfl,m.rt,hr,by rw[hp1.cell];rfl,r1,?_⟩;intro vt' w' f r;have hs1:w.heap.size<=w1.heap.size:=f0.size;have hbp:w'.heap[p]? =w1.heap[p]? :=f.blk p (by omega) (λho=>(m.ot p ho).2.1 rfl);have hblk:Blk w' p [vb,vt,.map (some bm),.int .i64 s.nest,.int .i64 most,.int .i64 long] 185:=hbp.trans hp1;have hne:∀k,Aw vt' k->k≠p/\k≠bm/\¬Aw vb k:=by
  intro k hk;rcases f.own k hk with h1|h1
  ·exact⟨(m.ot k h1).2.1,(m.ot k h1).2.2,λhb=>(m.ob k hb).2.2.2 h1⟩
  ·refine⟨by omega,?_,?_⟩
   ·have:=h.lt bm m.om;omega
   ·intro ht;have:=C8 m.rb ht;omega
 have hvb:vt'.cells=[vt'].toArray/\vt'.oneCell'=true:=by
  rcases r.2 with⟨rfl,_⟩|⟨g,cap,cur,rfl,_⟩<;>exact⟨rfl,rfl⟩
 have hst:=CG (P:=prog) (w:=w') (t:=44) (n:=1) (agg:=false) (b:=p) (o:=1) (v:=vt') HI hvb.1 rfl (by simpa using hvb.2) hblk (by simp);rw[Acq]at hst;have f1:Fr O w (grow O w w1) w1:=f0.grow (λb hb=>by subst hb;exact m.om);have f2:Fr (grow O w w1) w1 (grow (grow O w w1) w1 w') w':=f.grow (λb hb=>.inl (m.ot b hb).1);have f3:Fr (grow (grow O w w1) w1 w') w' (grow (grow O w w1) w1 w') (w'.setRow p [vb,vt',.map (some bm),.int .i64 s.nest,.int .i64 most,.int .i64 long].toArray):=Fr.setRow _ (.inl (.inl m.op));have hoth:∀b,b≠p->(w'.setRow p [vb,vt',.map (some bm),.int .i64 s.nest,.int .i64 most,.int .i64 long].toArray).heap[b]? =w'.heap[b]? :=λb hb=>setRow_other w' p b _ hb;refine⟨_,_,hst,f1.trans (f2.trans f3),?_,?_,?_,?_,?_,?_⟩
 ·intro b hb hl;have hi:=h.inp b hb hl;have hbl:b<w.heap.size:=BB hl h.base;refine⟨λho=>ho.elim (λho=>ho.elim hi.1 (λhg=>by omega)) (λhg=>by omega),?_⟩;rw[hoth b (λe=>hi.1 (e▸m.op)),f.blk b (by omega) (λho=>hi.1 (m.ot b ho).1),k1 b (λe=>hi.1 (e▸m.om)) hbl];exact hi.2
 ·intro b hb;simp only[E8];refine hb.elim (λho=>ho.elim (λho=>?_) (λhg=>?_)) (λhg=>hg.2)
  ·have:=h.lt b ho;have:=f.size;omega
  ·have:=f.size;omega
 ·simp only[E8];have:=f.size;have:=h.base;omega
 ·have hvb':∀b,Aw vb b->w'.heap[b]? =w.heap[b]? :=λb hb=>by
   have hl:=C8 m.rb hb;rw[f.blk b (by omega) (λho=>(m.ob b hb).2.2.2 ho),k1 b (m.ob b hb).2.2.1 hl]
  have hbm:w'.heap[bm]? =w1.heap[bm]? :=f.blk bm (by have:=h.lt bm m.om;omega) (λho=>(m.ot bm ho).2.2 rfl);refine⟨vb,vt',bm,hblk.setRow _,Cn m.rb (λb hb=>(hoth b (m.ob b hb).2.1).trans (hvb' b hb)),Cn r (λb hb=>hoth b (hne b hb).1),hm1.agree ((hoth bm (λe=>m.pm e.symm)).trans hbm),.inl (.inl m.op),.inl (.inl m.om),?_,?_,m.pm⟩
  ·intro k hk;exact⟨.inl (.inl (m.ob k hk).1),(m.ob k hk).2.1,(m.ob k hk).2.2.1,λht=>(hne k ht).2.2 hk⟩
  ·intro k hk;refine⟨?_,(hne k hk).1,(hne k hk).2.1⟩;rcases f.own k hk with h1|h1
   ·exact .inl (.inl (m.ot k h1).1)
   ·exact .inr ⟨h1,C8 r hk⟩
 ·intro y hy;rcases B3.1 hy with h1|h1
  ·exact h.tabs y h1
  ·rw[DT.1 h1];exact hx
 ·rw[Rx];exact⟨h.nodup,by simp,λa ha b hb=>by rw[DT.1 hb];exactλe=>hnx (e▸ha)⟩
theorem WSt.look(h:WSt w0 S p most long s O w){x:ByteArray}(hx:x.size<=maxLen):∃bm,w.cell? ⟨p,2,none⟩=some (.map (some bm))/\
 (Instr.lookup 131 (.map (some bm)) (.string x) true).run prog w=
  .ok (match s.tab.findIdx? (λy=>decide (y=x))with|some j=>.tuple #[.int .i64 j,.bool true]|none=>.tuple #[.int .i64 0,.bool false]) w:=by
 obtain⟨vb,vt,bm,m⟩:=h.mem;exact⟨bm,by rw[m.blk.cell];rfl,Au0 m.mp h.tabs h.nodup hx⟩
end
theorem Afi{p:Nat}{x:ByteArray}(hx:x.size<=maxLen):Mt w0 S p most long 151 (.string x) (λs=>some (s.str x)) 1:=by
 intro s O w hw hu;obtain⟨bm,hbm,hlk⟩:=hw.look hx;refine AE 48 func151 V V V ?_;refine Ac (Ab (Aa V V (AR V V (Ad V (Zm _ _ _) V (Ae V (Ai Adg hbm) V (Aa V V (RU V V hlk V ?_)))))));have hu':s.use<=2 ^ 40-11:=by omega
 have hub:s.b.length<=2 ^ 40/\s.tab.length<=2 ^ 40:=by simp only[WS.use]at hu';omega
 obtain⟨c,ok,hres,hcase⟩:∃(c:Nat) (ok:Bool),(match s.tab.findIdx? (λy=>decide (y=x))with|some j=>Value.tuple #[.int .i64 (j:Int),.bool true]|none=>.tuple #[.int .i64 0,.bool false])= .tuple #[.int .i64 c,.bool ok]/\
  ((ok=true/\c<s.tab.length/\s.num c=s.str x)\/(ok=false/\x∉s.tab/\({s with tab:=s.tab++[x]}:WS).num s.tab.length=s.str x)):=by
  cases hf:s.tab.findIdx? (λy=>decide (y=x))with
  |some j=>exact⟨j,true,rfl,.inl ⟨rfl,(Ka hf).1,by unfold WS.str;rw[hf]⟩⟩
  |none=>
   refine⟨0,false,rfl,.inr ⟨rfl,?_,by unfold WS.str;rw[hf]⟩⟩;intro hm;have:=Rr.1 hf x hm;simp at this
 rw[hres];refine Aa V V (D6 V V V (D6 V V V (Ah V V (Ah V V (Aj [(0,ptr p),(1,.string x),(4,.int .i64 c),(5,.bool ok)] ⟨V,V,V,V,trivial⟩ ?_)))));refine CM (ι:=WS×(Nat->Prop)×Nat) (λi=>[(0,ptr p),(4,.int .i64 i.2.2)]) (λi w1=>WSt w0 S p most long i.1 i.2.1 w1/\Fr O w i.2.1 w1/\i.2.2<9223372036854775807/\i.1.b.length<=2 ^ 40/\i.1.num i.2.2=s.str x) ?_ ?_
 ·refine Ac (Ab (Aa V V (HZ V V (Ag (AN V (λhok=>?_) (λhok=>AG λa ha=>Ak ?_))))))
  ·have hok':ok=false:=by simpa using hok
   rcases hcase with⟨h1,_⟩|⟨_,hnx,hst⟩
   ·rw[hok']at h1;cases h1
   obtain⟨vt,bm',w1,hc1,hc2,hrt,hup,hc1',hrt',hfin⟩:=hw.addTab hx hnx;refine Ac (Ab (Aa V V (AR V V (Ad V (MP _ _ _) V (Ae V (Ai HI hc1) V ?_)))));obtain⟨g,n,cp,hvt⟩:∃g n cp,vt= .slice g n cp/\n=s.tab.length:=by
    rcases hrt.2 with⟨h1,h2⟩|⟨g,cap,cur,h1,_⟩
    ·exact⟨none,0,0,h1,h2.symm⟩
    ·exact⟨_,_,_,h1,rfl⟩
   obtain⟨rfl,hn⟩:=hvt;refine AI V (AM underlying44) V (Ah V V (Ag ?_));rw[hn];refine Ac (Ab (Aa V V (AR V V (Ad V (Zm _ _ _) V (Ae V (Ai Adg hc2) V (Aa V V (Aa V V (XC V V V hup (Ag ?_)))))))));refine Ab (Aa V V (Aa V V (AR V V (Ad V (MP _ _ _) V (Ae V (Ai HI hc1') V (Aa V V (BR V V9 V ?_)))))));obtain⟨v2,w2,hr2,r2,f2⟩:=So (w:=w1.alloc (.cells [Value.string x].toArray 9)) (ty:=44) (ys:=[x]) (L4 hrt' _) (W6 (n:=1) (c:=1) Cf rfl) (by simp;omega);obtain⟨w3,O3,hst3,f3,hw3⟩:=hfin v2 w2 ((Fr.alloc _ _ _).trans f2) r2;refine CX V V hr2 V (AR V V (Ad V (MP _ _ _) V (An V V hst3 (A2 λa ha=>Ak ?_))));exact⟨(_,O3,s.tab.length),ha.weak ⟨V,V,trivial⟩,hw3,f3,by show s.tab.length<_;omega,hub.1,hst⟩
  ·have hok':ok=true:=by simpa using hok
   rcases hcase with⟨_,hc,hst⟩|⟨h1,_⟩
   ·exact⟨(s,O,c),ha.weak ⟨V,V,trivial⟩,hw,Fr.refl _ _,by show c<_;omega,hub.1,hst⟩
   ·rw[hok']at h1;cases h1
 ·rintro⟨s1,O1,c1⟩ w1 ⟨hw1,f1,hc1,hb1,hst⟩;simp only at hw1 f1 hc1 hb1 hst⊢;obtain⟨vb,hvb,hrb,hput⟩:=hw1.put;refine Ab (Aa V V (Aa V V (AR V V (Ad V (Fj _ _ _) V (Ae V (Ai C_ hvb) V (Aa V V (BH V (De runUnderlying3 runUnderlying164) V ?_)))))));rw[DH (by omega) (by omega)];refine Af call97 V V (JQ hrb (by omega) (by have:=EY (n:=c1) (by omega);omega)) ?_ Am;rintro v' w2 ⟨r2,f2⟩;obtain⟨w3,O',hst3,f3,hw3⟩:=hput v' w2 _ f2 r2;refine AR V V (Ad V (Fj _ _ _) V (An V V hst3 (A2 λa ha=>B9 V ha ⟨rfl,_,_,rfl,f1.trans f3,?_⟩)));rw[<-hst];exact hw3
def WS.nums(s:WS):List Nat->WS
 |[]=>s
 |n::l=>(s.num n).nums l
theorem RX:∀(l:List Nat) (s:WS) (n:Nat),s.nums (l++[n])=(s.nums l).num n
 |[],_,_=>rfl
 |m::l,s,n=>RX l (s.num m) n
theorem GZ{α:Type}{l:List α}{x:α}(h:l[i]? =some x):l.take (i+1)=l.take i++[x]:=by
 rw[KE,h];rfl
theorem FM{most long:Nat}:∀(l k:List T) (s:WS),Bk most long (l++k) s=(Bk most long l s).bind (Bk most long k)
 |[],k,s=>by simp[Bk]
 |t::l,k,s=>by
  simp only[CL,Bk];cases enc most long t s with
  |none=>rfl
  |some u=>exact FM l k u
theorem MK(t:T)(s:WS):Bk most long [t] s=enc most long t s:=by
 simp only[Bk];cases enc most long t s<;>rfl
variable{l:List T}
theorem Tn{t:T}{s':WS}(h:l[i]? =some t)(h1:Bk most long (l.take i) s=some s')(h2:enc most long t s'=none):Bk most long l s=none:=by
 have:l=(l.take i++[t])++l.drop (i+1):=by rw[<-GZ h,IG]
 rw[this,FM,FM,h1];simp[MK,h2]
theorem RO{t:T}(h:l[i]? =some t):Bf (l.take i)+t.wt<=Bf l:=by
 have key:∀(a b:List T),Bf (a++b)=Bf a+Bf b:=by
  intro a b;induction a with
  |nil=>simp[Bf]
  |cons x a ih=>simp[Bf,ih];omega
 have:l=(l.take i++[t])++l.drop (i+1):=by rw[<-GZ h,IG]
 have e:=congrArg Bf this;rw[key,key]at e;simp only[Bf]at e;omega
variable{z:Value}{agg:Bool}
theorem Ar5{te:Nat}{ds:List Value}(ht:AC P te agg n)(hz:z.cells.size=n)(hl:ds.length=n)(hv:v.cells=ds.toArray)(h1:∀x∈ds,x.oneCell'=true):
 ∃w2,(storeVar te ⟨w.heap.size,0,none⟩ v).run P (w.alloc (.cells z.cells te))= .ok () w2/\Blk w2 w.heap.size ds te/\Fr (λ_=>False) w (λb=>b=w.heap.size) w2/\w2.heap.size=w.heap.size+1:=by
 have hb:Blk (w.alloc (.cells z.cells te)) w.heap.size z.cells.toList te:=by
  have:=heap_alloc_new w (.cells z.cells te);simpa[Blk]using this
 have hst:=CG (P:=P) (o:=0) (v:=v) (vs:=ds) ht hv hl h1 hb (by simp[hl,hz]);have hs:Ci z.cells.toList 0 ds=ds:=by
  simp only[Ci,HQ,Dh,BO];rw[List.drop_eq_nil_of_le (by simp[hl,hz])];simp
 rw[hs]at hst;refine⟨_,hst,hb.setRow ds,⟨rfl,rfl,rfl,by simp,λb hb' _=>?_,λb hb'=>.inr (by omega)⟩,by simp⟩;rw[setRow_other _ _ _ _ (by omega),heap_alloc_old w _ b hb']
mutual
theorem Rep.one{w:World}{S:Nat->Prop}:∀(t:T) (f:Ty) (cs:List Value),Rep w S t f cs->cs.length=f.size/\(∀x∈cs,x.oneCell'=true)
 | .int n,f,cs,h=>by cases f<;>simp only[Rep]at h;rw[h.1];simp[Ty.size,Value.oneCell']
 | .bool n,f,cs,h=>by cases f<;>simp only[Rep]at h;rw[h];simp[Ty.size,Value.oneCell']
 | .str n,f,cs,h=>by cases f<;>simp only[Rep]at h;rw[h.1];simp[Ty.size,Value.oneCell']
 | .nil,f,cs,h=>by cases f<;>simp only[Rep]at h;rw[h];simp[Ty.size,Value.oneCell']
 | .ptr t,f,cs,h=>by
  cases f<;>simp only[Rep]at h;obtain⟨b,o,ds,h,_⟩:=h;rw[h];simp[Ty.size,Value.oneCell']
 | .list l,f,cs,h=>by
  cases f<;>simp only[Rep]at h;rcases h with⟨⟨g,cap,h⟩,_⟩|⟨b,o,cap,h,_⟩
  ·rw[h];simp[Ty.size,Value.oneCell']
  ·rw[h];simp[Ty.size,Value.oneCell']
 | .agg s l,f,cs,h=>by
  cases f<;>simp only[Rep]at h;rename_i s';obtain⟨rfl,h1,h2⟩:=h;refine⟨h1,?_⟩;have:=RepF.one l _ 0 cs h2;intro x hx;obtain⟨i,hi⟩:=List.mem_iff_getElem?.1 hx;have hi':=(C3.1 hi).1;refine this i x (AW _) ?_ hi;have hsz:(s.fields.map Ty.size).sum=s.size:=by cases s<;>decide
  omega
theorem RepF.one{w:World}{S:Nat->Prop}:∀(l:List T) (fs:List Ty) (o:Nat) (cs:List Value),RepF w S l fs o cs->∀i x,o<=i->i<o+(fs.map Ty.size).sum->cs[i]? =some x->x.oneCell'=true
 |[],fs,o,cs,h,i,x,h1,h2,h3=>by
  cases fs<;>simp only[RepF]at h;simp at h2;omega
 |t::l,fs,o,cs,h,i,x,h1,h2,h3=>by
  cases fs<;>simp only[RepF]at h;rename_i f fs;simp only[CA,List.sum_cons]at h2;by_cases hi:i<o+f.size
  ·have:=(Rep.one t f _ h.1).2 x;apply this;refine BA (i:=i-o) ?_;rw[Ea,if_pos (by omega),He,show o+(i-o)=i from by omega,h3]
  ·exact RepF.one l fs _ cs h.2 i x (by omega) (by omega) h3
end
theorem IS{p:Nat}{ns:List Int}(hns:∀n∈ns,AP n)(hw:WSt w0 S p most long s O w)(hu:s.use+11*ns.length<=2 ^ 40)
  (hb:Own O w b (ns.map (Value.int .i64)) 3):
 Calls prog 207 [ptr p,.slice (some ⟨b,0,none⟩) ns.length ns.length].toArray w (End (λv w'=>v= .tuple #[]/\∃O',Fr O w O' w'/\WSt w0 S p most long (s.nums (ns.map C2)) O' w') (λ_ _=>False)):=by
 refine AE 16 func207 V V V ?_;refine Ac (Ab (Aa V V (AI V (AM underlying262) V (Aa V V (Ag ?_)))));refine AF (BP (ι:=Nat×(Nat->Prop)) (λi=>[(0,ptr p),(6,.slice (some ⟨b,0,none⟩) ns.length ns.length),(7,.int .i64 ns.length),(8,.int .i64 i.1)])
  (λi w'=>i.1<=ns.length/\WSt w0 S p most long (s.nums ((ns.take i.1).map C2)) i.2 w'/\Fr O w i.2 w'/\(s.nums ((ns.take i.1).map C2)).use<=s.use+11*i.1) (λi=>ns.length-i.1)
  (0,O) ⟨V,V,V,V,trivial⟩ ⟨AW _,hw,Fr.refl _ _,Ay _⟩ ?_)
 rintro⟨i,Oi⟩ wi ⟨hi,hwi,fi,hui⟩;simp only at hi hwi fi hui⊢;refine Ac (Ab (Al V V V V (Ag (Ac ?_))));refine AN V (λht=>AG λa ha=>Ak ?_) (λhf=>BC λa ha=>AD (AD (B_ ?_)))
 ·have hlt:i<ns.length:=by simp at ht;omega
  obtain⟨n,hn⟩:∃n,ns[i]? =some n:=⟨_,Bm hlt⟩;have hin:=hns n (BA hn);have hbi:=fi.keep hb;have hcell:wi.cell? ⟨b,0+i*1,none⟩=some (.int .i64 n):=by rw[hbi.blk.cell];simp[hn]
  refine(Ac (AF (Ac (Ab (AO V V (Dy underlying262 Bo (by omega) (by omega)) V ?_))))) a ha;rw[Do];refine Ae V (Ai Bo hcell) V (Ah V V (Ag ?_));refine Ab (Aa rfl rfl (Aa rfl rfl (Af call218 rfl rfl (Yy hin _ _ _ hwi (by omega)) ?_ (λ_ _ h=>by obtain⟨_,h,_⟩:=h;cases h))));rintro v w2 ⟨rfl,s2,O2,hs2,f2,hw2⟩;cases hs2;have hsn:(s.nums ((ns.take i).map C2)).num (C2 n)=s.nums ((ns.take (i+1)).map C2):=by rw[GZ hn,IE,<-RX];rfl
  refine A2 λa ha=>BK (Ak ((Ab (Al V V V V (Aa V V (A2 λa ha=>Ak ?_)))) a ha));refine⟨(i+1,O2),ha.weak ⟨rfl,rfl,rfl,?_,trivial⟩,⟨hlt,by rw[<-hsn];exact hw2,fi.trans f2,?_⟩,by simp only;omega⟩
  ·show some (Value.int .i64 (IntKind.i64.wrap ((i:Int)+1)))=some (Value.int .i64 ((i+1:Nat):Int));rw[CS (by unfold AP;omega)];rfl
  ·rw[<-hsn];have:=Ed (s:=s.nums ((ns.take i).map C2)) (G_ n);simp only;omega
 ·have hge:i=ns.length:=by simp at hf;omega
  subst hge;refine B9 V ha ⟨rfl,Oi,fi,?_⟩;rw[E5]at hwi;exact hwi
theorem Gf{p:Nat}{ns:List Bool}(hw:WSt w0 S p most long s O w)(hu:s.use+11*ns.length<=2 ^ 40)
  (hb:Own O w b (ns.map Value.bool) 4):
 Calls prog 206 [ptr p,.slice (some ⟨b,0,none⟩) ns.length ns.length].toArray w (End (λv w'=>v= .tuple #[]/\∃O',Fr O w O' w'/\WSt w0 S p most long (s.nums (ns.map Bool.toNat)) O' w') (λ_ _=>False)):=by
 refine AE 24 func206 V V V ?_;refine Ac (Ab (Aa V V (AI V (AM underlying349) V (Aa V V (Ag ?_)))));refine AF (BP (ι:=Nat×(Nat->Prop)) (λi=>[(0,ptr p),(7,.slice (some ⟨b,0,none⟩) ns.length ns.length),(8,.int .i64 ns.length),(9,.int .i64 i.1)])
  (λi w'=>i.1<=ns.length/\WSt w0 S p most long (s.nums ((ns.take i.1).map Bool.toNat)) i.2 w'/\Fr O w i.2 w'/\(s.nums ((ns.take i.1).map Bool.toNat)).use<=s.use+11*i.1) (λi=>ns.length-i.1)
  (0,O) ⟨V,V,V,V,trivial⟩ ⟨AW _,hw,Fr.refl _ _,Ay _⟩ ?_)
 rintro⟨i,Oi⟩ wi ⟨hi,hwi,fi,hui⟩;simp only at hi hwi fi hui⊢;refine Ac (Ab (Al V V V V (Ag (Ac ?_))));refine AN V (λht=>AG λa ha=>Ak ?_) (λhf=>BC λa ha=>AD (AD (B_ ?_)))
 ·have hlt:i<ns.length:=by simp at ht;omega
  obtain⟨n,hn⟩:∃n,ns[i]? =some n:=⟨_,Bm hlt⟩;have hbi:=fi.keep hb;have hcell:wi.cell? ⟨b,0+i*1,none⟩=some (.bool n):=by rw[hbi.blk.cell];simp[hn]
  refine(Ac (AF (Ac (Ab (AO V V (Dy underlying349 D4 (by omega) (by omega)) V ?_))))) a ha;rw[Do];refine Ae V (Ai D4 hcell) V (Ah V V (Ag (Ac (Ab (Ah V V (Ag ?_))))));refine CM (ι:=Unit) (λ_=>[(0,ptr p),(6,.int .u64 (n.toNat:Nat)),(7,.slice (some ⟨b,0,none⟩) ns.length ns.length),(8,.int .i64 ns.length),(9,.int .i64 i)]) (λ_ w'=>w'=wi)
   (Ac (Ab (Aa rfl rfl (Ag (AN rfl (λht=>Ab (Ah rfl rfl (A2 λa ha=>Ak ?_))) (λhf=>AG λa ha=>Ak ?_)))))) ?_
  ·exact⟨(),ha.weak ⟨rfl,by rw[ht];rfl,rfl,rfl,rfl,trivial⟩,rfl⟩
  ·exact⟨(),ha.weak ⟨rfl,by rw[hf];rfl,rfl,rfl,rfl,trivial⟩,rfl⟩
  rintro _ _ rfl;obtain⟨vb,hvb,hrb,hput⟩:=hwi.put;refine Ab (Aa V V (Aa V V (AR V V (Ad V (Fj _ _ _) V (Ae V (Ai C_ hvb) V (Aa V V ?_))))));refine Af call97 V V (JQ hrb (by cases n<;>decide) (by have:=EY (n:=n.toNat) (by cases n<;>decide);simp only[WS.use]at*;omega)) ?_ Am;rintro v' w1 ⟨r1,f1⟩;obtain⟨w2,O2,hst,f2,hw2⟩:=hput v' w1 _ f1 r1;refine AR V V (Ad V (Fj _ _ _) V (An V V hst (A2 λa ha=>BK (Ak ((Ab (Al V V V V (Aa V V (A2 λa ha=>Ak ?_)))) a ha)))));have hsn:(s.nums ((ns.take i).map Bool.toNat)).num n.toNat=s.nums ((ns.take (i+1)).map Bool.toNat):=by rw[GZ hn,IE,<-RX];rfl
  refine⟨(i+1,O2),ha.weak ⟨rfl,rfl,rfl,?_,trivial⟩,⟨hlt,by rw[<-hsn];exact hw2,fi.trans f2,?_⟩,by simp only;omega⟩
  ·show some (Value.int .i64 (IntKind.i64.wrap ((i:Int)+1)))=some (Value.int .i64 ((i+1:Nat):Int));rw[CS (by unfold AP;simp only[WS.use]at*;omega)];rfl
  ·rw[<-hsn];have:=Ed (s:=s.nums ((ns.take i).map Bool.toNat)) (n:=n.toNat) (by cases n<;>decide);simp only;omega
 ·have hge:i=ns.length:=by simp at hf;omega
  subst hge;refine B9 V ha ⟨rfl,Oi,fi,?_⟩;rw[E5]at hwi;exact hwi
end Go.Sx