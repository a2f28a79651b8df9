import Derived.Test.YtdldhfocpandoaaGreatCkD
import Derived.OrdersHeld
noncomputable section
set_option maxHeartbeats 8000000
set_option maxRecDepth 8000
namespace Go.Ck
open Go.Sx
structure C4 where
 T:Ar
 ty:Nat->Option TI
 lk:Nat->LK
 con:Nat->List Con
 nt:Nat
 lay:Nat
 m0:LE
 spl:Bool:=false
 ext:Nat->Option Bool:=λ_=>none
 lits:Bool:=false
def Aaz(G:C4)(st:St):Op->Option (EV×St)
 | .alloc t=>Si G.ty st t
 | .box t x=>SD st t x
 | .buildSlice t len parts=>match G.lits with
  |true=>match V8 G.T G.ty G.lk st t len parts.toList with
   |some r=>some r
   |none=>OV G.T G.ty G.lk st t len parts.toList
  |false=>OV G.T G.ty G.lk st t len parts.toList
 | .load t x=>(BT st x).bind λc=>Sq G.ty st t c
 | .convert s t x=>(BT st x).bind λc=>Ss G.ty st s t c
 | .field s x f=>(DO st x).bind λe=>(Vs G.ty s e f).map λev=>(ev,st)
 | .makeSlice t x y=>match G.lk t,BT st x,BT st y with
  | .ar k,some cx,some cy=>Sr G.ty st k t cx cy
  |_,_,_=>none
 | .call c=>match c.callee with
  | .builtin .append=>match c.args.toList,c.argTypes.toList with
   |[x,y],[t,u]=>match BT st x,BT st y with
    |some cx,some cy=>match G.lk t with
     | .fz e=>Sk G.T G.ty st e t u cx cy
     | .ar k=>match Sp G.ty st k t u cx cy with
      |some r=>some r
      |none=>Sv G.ty st k t u cx cy
     | .no=>none
    |_,_=>none
   |_,_=>none
  |_=>none
 |_=>none
def Ez(d:Nat)(e:EV)(s:St):St:={s with env:=(d,e)::s.env}
def GY:List Operand->St->Option (List St)
 |[],st=>some [st]
 |x::xs,st=>match x with
  | .tmp t=>match Ck.get st.env t with
   |some (.sc (.cmp b))=>match KV st (.cmp b)with
    |some (ts,fs)=>match D8 (GY xs) (ts.map (Ez t (.sc (.bool (.k 1))))),D8 (GY xs) (fs.map (Ez t (.sc (.bool (.k 0)))))with
     |some p,some q=>some (p++q)
     |_,_=>none
    |none=>none
   |_=>GY xs st
  |_=>GY xs st
def N7(st:St):Operand->Option EV
 | .const (.string s)=>match s.data.toList with
  |[91]=>some (.sc .sk)
  |_=>DO st (.const (.string s))
 |x=>DO st x
def Kt(st:St):List Operand->Option (List EV)
 |[]=>some []
 |x::xs=>match N7 st x,Kt st xs with
  |some e,some es=>some (e::es)
  |_,_=>none
def QM(G:C4)(st:St)(evs:List EV):List Con->Option (List (EV×St))
 |[]=>none
 |c::cs=>match Pa G.T st c evs G.lay G.m0 with
  |some l=>some l
  |none=>QM G st evs cs
def putO(d:Option Nat)(p:EV×St):St:=match d with
 |some d=>Ez d p.1 p.2
 |none=>p.2
def Y8(G:C4)(d:Option Nat)(f:Nat)(args:List Operand)(st:St):Option (List St):=
 match Kt st args with
 |some evs=>(QM G st evs (G.con f)).map λl=>l.map (putO d)
 |none=>none
def Q1(d:Nat)(x:Operand)(s:St):Option (List St):=(DO s x).map λe=>[Ez d e s]
def Nk:List SC->Option (IntKind×List LE)
 |[]=>none
 |[.int k e]=>some (k,[e])
 | .int k e::r=>match Nk r with
  |some (k',l)=>match decide (k=k')with
   |true=>some (k,e::l)
   |false=>none
  |none=>none
 |_=>none
def N6(st:St):List Operand->Option (List SC)
 |[]=>some []
 |x::xs=>match BT st x,N6 st xs with
  |some c,some cs=>some (c::cs)
  |_,_=>none
def VM:Builtin->Option Bool
 | .max=>some true
 | .min=>some false
 |_=>none
def Ny(b:Bool)(e f:LE):LE:=match b with
 |true=>.sub e f
 |false=>.sub f e
def Aa2(b:Bool)(d:Nat)(k:IntKind)(l:List LE)(st:St)(e:LE):Option (List St):=
 (Hm st (l.map (Ny b e))).map λss=>ss.map (Ez d (.sc (.int k e)))
def VN(b:Bool)(d:Nat)(args:List Operand)(st:St):Option (List St):=
 match N6 st args with
 |some cs=>match Nk cs with
  |some (k,l)=>D8 (Aa2 b d k l st) l
  |none=>none
 |none=>none
def extV:Bool->Value->Option Value
 |true,.float .f64 b=>some (.int .u64 b)
 |false,.int .u64 n=>some (.float .f64 n.toNat)
 |_,_=>none
def ExtOK(P:Program)(ext:Nat->Option Bool):Prop:=∀f b,ext f=some b->∀x y,extV b x=some y->∀w,(callFunc f #[x]).run P w= .ok (.value y) w
def T7(b:Bool)(d:Option Nat)(args:List Operand)(st:St):Option (List St):=
 match args,d with
 |[x],some d=>match b,BT st x with
  |true,some (.flt e)=>some [Ez d (.sc (.int .u64 e)) st]
  |false,some (.int .u64 e)=>some [Ez d (.sc (.flt e)) st]
  |_,_=>none
 |_,_=>none
def Amv(G:C4):Option Nat->Bool
 |some d=>Nat.blt d G.nt
 |none=>true
def Kz(G:C4)(o:Oper)(st:St):Option (List St):=
 match Amv G o.dst with
 |false=>none
 |true=>
  match Q4 G.T G.ty st o.op,o.dst with
  |some r,some d=>match r.okb st.next with
   |true=>some [st.put d r]
   |false=>none
  |_,_=>match Aaz G st o.op,o.dst with
   |some (ev,st'),some d=>some [{st' with env:=(d,ev)::st.env}]
   |_,_=>match o.op,o.dst with
    | .pick c x y,some d=>match BT st c with
     |some cc=>match KV st cc with
      |some (ts,fs)=>match D8 (Q1 d x) ts,D8 (Q1 d y) fs with
       |some p,some q=>some (p++q)
       |_,_=>none
      |none=>none
     |none=>none
    | .store t x y,none=>(WA G.ty st t x y).map λs=>[s]
    | .call c,_=>match c.callee with
     | .value (.func f)=>match G.ext f with
      |some b=>T7 b o.dst c.args.toList st
      |none=>match GY c.args.toList st with
       |some l=>D8 (Y8 G o.dst f c.args.toList) l
       |none=>none
     | .builtin b=>match VM b,o.dst with
      |some m,some d=>VN m d c.args.toList st
      |_,_=>none
     |_=>none
    |_,_=>none
def WG(st:St)(op:Op):Option LE:=match op with
 | .binOp .add _ x y _=>match BT st x,BT st y with
  |some (.int .i64 e),some (.int .i64 f)=>some (.add e f)
  |_,_=>none
 |_=>none
def Ww(st:St):List LE:=st.env.flatMap λq=>match Ck.get st.env q.1 with
 |some (.sc (.fz _ i n m _ _))=>st.pres.flatMap λp=>match Nat.beq p.1 i&&BF st.facts 2 (.sub p.2.1 n)&&BF st.facts 2 (.sub n p.2.1)&& !BF st.facts 2 (.sub (.s p.2.2) m)with
  |true=>[.sub (.s p.2.2) m]
  |false=>[]
 |_=>[]
def W8(G:C4)(o:Oper)(st:St):Option (List St):=match WG st o.op with
 |none=>Kz G o st
 |some g=>match BF st.facts 4 (.sub (.k 9223372036854775807) g)with
  |true=>Kz G o st
  |false=>match Hm st [.sub (.k 9223372036854775807) g],Hm st [g.addk (-9223372036854775808)],o.dst with
   |some a,some b,some d=>match Nat.blt d G.nt,D8 (Kz G o) a with
    |true,some l=>some (l++b.map λs=>s.put d (FN .i64 s.next []))
    |_,_=>none
   |_,_,_=>none
def ZZ:Op->Bool
 | .binOp _ _ _ _ _=>true
 |_=>false
theorem Aqx{op:Op}(h:ZZ op=true):∃b t x y u,op= .binOp b t x y u:=by
 cases op<;>first|cases h;done|exact⟨_,_,_,_,_,rfl⟩
def QC(G:C4)(o:Oper)(st:St):Option (List St):=match G.spl with
 |false=>Kz G o st
 |true=>match ZZ o.op with
  |false=>Kz G o st
  |true=>match Hm st (Ww st)with
   |some l=>D8 (W8 G o) l
   |none=>none
def Zu(G:C4)(st:St):Op->Option St
 | .store t _ (.tmp i)=>Vt G.T G.lk st t i
 |_=>none
def W7(G:C4)(o:Oper)(st:St):Option (List St):=match Zu G st o.op with
 |some st'=>QC G o st'
 |none=>QC G o st
def FC(g:Nat):Option SC->Bool
 |some (.vp g' _)=>Nat.beq g' g
 |_=>false
def Hc(st:St)(op:Op)(g:Nat):Bool:=match op with
 | .store _ x y=>FC g (BT st x)||FC g (BT st y)
 | .call c=>match c.args.toList with
  |x::_=>match DO st x with
   |some (.sc (.vp g' _))=>Nat.beq g' g
   |_=>false
  |[]=>false
 |_=>false
structure IB(P:Program)(G:C4)(M0:Int):Prop where
 ok:∀f con,con∈G.con f->Hd P G.T f con (Below con G.lay M0)
 run:∀f con,con∈G.con f->GB P f
 ext:ExtOK P G.ext
def IC(T:Ar)(X:Cx)(nt:Nat)(v:Val)(st:St)(op:Op)(w:World)(outs:List St)(a':Act)(w':World):Prop:=
 ∃st'∈outs,∃v',Ext st.next v v'/\st.next<=st'.next/\Den T X nt v' st' a' w'/\∀q∈st.mem,Hc st op q.1=false->∀b,v.β q.1=some b->w'.heap[b]? =w.heap[b]?
section
variable{P:Program}{G:C4}{X:Cx}{v v':Val}{st st':St}{a:Act}{w w':World}{k k':Nat}
variable{nt:Nat}{T:Ar}
theorem Ar_(h:Den T X nt v st a w){x:Operand}{e:EV}(he:N7 st x=some e):DE T v e (a.eval x)/\e.ok st.next=true:=by
 unfold N7 at he;split at he
 ·rename_i s;split at he
  ·rename_i hs;cases he;refine⟨?_,rfl⟩;show Value.string s= .string tagS;have:s=tagS:=ByteArray.ext (DB.1 hs);rw[this]
  ·exact Gz h he
 ·exact Gz h he
theorem Asa{x:Operand}{g o:Nat}(h:N7 st x=some (.sc (.vp g o))):DO st x=some (.sc (.vp g o)):=by
 unfold N7 at h;split at h
 ·split at h
  ·cases h
  ·exact h
 ·exact h
theorem Abi{T:Ar}{nt:Nat}(h:Den T X nt v st a w):∀{xs:List Operand}{es:List EV},Kt st xs=some es->All2 (DE T v) es (xs.map a.eval)/\∀e∈es,e.ok st.next=true
 |[],es,he=>by simp only[Kt]at he;cases he;exact⟨trivial,by simp⟩
 |x::xs,es,he=>by
  simp only[Kt]at he;split at he
  ·rename_i e es' h1 h2;cases he;have a1:=Ar_ h h1;have a2:=Abi h h2;refine⟨⟨a1.1,a2.1⟩,?_⟩;intro e' he';rcases Ao.1 he' with rfl|he'
   ·exact a1.2
   ·exact a2.2 e' he'
  ·cases he
variable{b:Bool}
theorem Den.setBool(h:Den T X nt v st a w){t:Nat}(hv:a.tmps[t]? =some (.bool b)):Den T X nt v (Ez t (.sc (.bool (.k (Dr b)))) st) a w:=by
 refine h.setEnv ⟨_,hv,?_⟩ rfl;show DC T v (.bool _) _;simp only[DC,LE.k_ev];cases b<;>simp[Dr]
def SameVp(s st:St):Prop:=∀x g o,DO s x=some (.sc (.vp g o))->DO st x=some (.sc (.vp g o))
variable{s:St}
theorem SameVp.set{t:Nat}{e:LE}{st:St}(he:s.env=st.env):SameVp (Ez t (.sc (.bool e)) s) st:=by
 intro x g o h;cases x with
 |tmp i=>
  simp only[DO,Ez,Ck.get_nil,Ck.get_cons]at h⊢;split at h
  ·cases h
  ·rw[<-he];exact h
 |const c=>exact h
 |global g=>exact h
 |func f=>exact h
theorem J6{T:Ar}{nt:Nat}:∀{xs:List Operand}{st:St}{l:List St},Den T X nt v st a w->GY xs st=some l->∃st'∈l,Den T X nt v st' a w/\st'.next=st.next/\st'.mem=st.mem/\SameVp st' st
 |[],st,l,h,hs=>by simp only[GY]at hs;cases hs;exact⟨st,by simp,h,rfl,rfl,λ_ _ _ h=>h⟩
 |x::xs,st,l,h,hs=>by
  simp only[GY]at hs;split at hs
  ·rename_i t;split at hs
   ·rename_i b hg;split at hs
    ·rename_i ts fs hb;split at hs<;>cases hs;rename_i p q hp hq;obtain⟨x,h1,h2,_⟩:=h.env _ _ hg;obtain⟨bb,rfl,s,h3,h4,h5,h5',h7,_⟩:=OU h hb h2;have h6:=h4.setBool h1;cases bb with
     |true=>
      obtain⟨y,k1,k2⟩:=Ef hp _ (BY.2 ⟨s,h3,rfl⟩);obtain⟨s',k3,k4,k5,k6,k7⟩:=J6 h6 k1;exact⟨s',by simp[k2 s' k3],k4,k5.trans h5,k6.trans h7,λx g o hx=>SameVp.set h5' x g o (k7 x g o hx)⟩
     |false=>
      obtain⟨y,k1,k2⟩:=Ef hq _ (BY.2 ⟨s,h3,rfl⟩);obtain⟨s',k3,k4,k5,k6,k7⟩:=J6 h6 k1;exact⟨s',by simp[k2 s' k3],k4,k5.trans h5,k6.trans h7,λx g o hx=>SameVp.set h5' x g o (k7 x g o hx)⟩
    ·cases hs
   ·exact J6 h hs
  ·exact J6 h hs
theorem Adb{evs:List EV}:∀{cs:List Con}{l:List (EV×St)},QM G st evs cs=some l->∃c∈cs,Pa G.T st c evs G.lay G.m0=some l
 |c::cs,l,h=>by
  simp only[QM]at h;split at h
  ·rename_i l' hl;cases h;exact⟨c,by simp,hl⟩
  ·obtain⟨c',h1,h2⟩:=Adb h;exact⟨c',by simp[h1],h2⟩
theorem Den.putO(h:Den T X nt v st a w){v':Val}{p:EV×St}{x:Value}{w':World}(hx:Ext st.next v v')(hn:st.next<=p.2.next)(he:p.2.env=st.env)(hp:Hp T X v' p.2 w')(hd:DE T v' p.1 x)(ho:p.1.ok p.2.next=true){d:Option Nat}
 (hdst:(match d with|some d=>Nat.blt d nt|none=>true)=true):Den T X nt v' (putO d p) (a.put d x) w':=by
 have base:Den T X nt v' p.2 a w':=by
  refine⟨h.size,h.defers,?_,hp⟩;intro i e hi;rw[he]at hi;obtain⟨y,h1,h2,h3⟩:=h.env i e hi;exact⟨y,h1,DE.ext hx h3 h2,EV.ok_mono hn h3⟩
 cases d with
 |none=>exact base
 |some d=>
  have hd':d<nt:=by simpa[A_]using hdst
  refine⟨by simpa[Act.put]using h.size,by simpa[Act.put]using h.defers,?_,hp.env _⟩;intro i e hi;rw[We hd' h.size];simp only[Ck.putO,Ez,Ck.get_nil,Ck.get_cons]at hi;split at hi
  ·rename_i hb;cases hi;rw[if_pos (AH hb)];exact⟨x,rfl,hd,ho⟩
  ·rename_i hb;rw[if_neg (λe=>by subst e;simp at hb)];exact base.env i e hi
theorem Wu{k:IntKind}:∀(es:List Int) (x:Int),(∃m,((es.map (Value.int k)).foldlM Builtin.max2 (.int k x)).run P w= .ok (.int k m) w/\(m=x\/m∈es)/\x<=m/\∀e∈es,e<=m)/\
 ∃m,((es.map (Value.int k)).foldlM Builtin.min2 (.int k x)).run P w= .ok (.int k m) w/\(m=x\/m∈es)/\m<=x/\∀e∈es,m<=e
 |[],x=>⟨⟨x,by simp,.inl rfl,JG _,by simp⟩,⟨x,by simp,.inl rfl,JG _,by simp⟩⟩
 |e::es,x=>by
  refine⟨?_,?_⟩
  ·obtain⟨⟨m,h1,h2,h3,h4⟩,_⟩:=Wu es (if e>x then e else x);refine⟨m,by simpa[Builtin.max2]using h1,?_,?_,?_⟩
   ·rcases h2 with h2|h2
    ·split at h2
     ·exact .inr (by simp[h2])
     ·exact .inl h2
    ·exact .inr (by simp[h2])
   ·split at h3<;>omega
   ·intro f hf;rcases Ao.1 hf with rfl|hf
    ·split at h3<;>omega
    ·exact h4 f hf
  ·obtain⟨_,⟨m,h1,h2,h3,h4⟩⟩:=Wu es (if e<x then e else x);refine⟨m,by simpa[Builtin.min2]using h1,?_,?_,?_⟩
   ·rcases h2 with h2|h2
    ·split at h2
     ·exact .inr (by simp[h2])
     ·exact .inl h2
    ·exact .inr (by simp[h2])
   ·split at h3<;>omega
   ·intro f hf;rcases Ao.1 hf with rfl|hf
    ·split at h3<;>omega
    ·exact h4 f hf
theorem Abh{T:Ar}{nt:Nat}(h:Den T X nt v st a w):∀{xs:List Operand}{cs:List SC},N6 st xs=some cs->All2 (DC T v) cs (xs.map a.eval)/\∀c∈cs,c.ok st.next=true
 |[],cs,he=>by simp only[N6]at he;cases he;exact⟨trivial,by simp⟩
 |x::xs,cs,he=>by
  simp only[N6]at he;split at he
  ·rename_i c cs' h1 h2;cases he;have a1:=Db h h1;have a2:=Abh h h2;refine⟨⟨a1.1,a2.1⟩,?_⟩;intro e' he';rcases Ao.1 he' with rfl|he'
   ·exact a1.2
   ·exact a2.2 e' he'
  ·cases he
theorem ZX{T:Ar}:∀{cs:List SC}{xs:List Value}{k:IntKind}{l:List LE},Nk cs=some (k,l)->All2 (DC T v) cs xs->(∀c∈cs,c.ok st.next=true)->xs=(l.map λe=>Value.int k (e.ev v.ρ))/\l≠[]/\∀e∈l,e.ok st.next=true/\Bs k (e.ev v.ρ)
 |[],xs,k,l,h,_,_=>by simp only[Nk]at h;cases h
 |c::cs,xs,k,l,h,hx,ho=>by
  unfold Nk at h;split at h
  ·rename_i he;cases he
  ·rename_i k' e he;cases he;cases h;cases xs with
   |nil=>exact hx.elim
   |cons x xs=>cases xs with
    |nil=>exact⟨by rw[hx.1.1];rfl,by simp,λe he=>by
     simp only[Ao,AB,or_false]at he;subst he;exact⟨ho (.int k e) (by simp),hx.1.2⟩⟩
    |cons=>exact hx.2.elim
  ·rename_i k' e r hne he;cases he;split at h
   ·rename_i k'' l' hl;split at h<;>cases h;rename_i hk;have hk:k=k'':=by simpa using hk
    subst hk;cases xs with
    |nil=>exact hx.elim
    |cons x xs=>
     obtain⟨b1,b2,b3⟩:=ZX hl hx.2 λc hc=>ho c (by simp[hc]);refine⟨by rw[hx.1.1,b1];rfl,by simp,λf hf=>?_⟩;rcases Ao.1 hf with rfl|hf
     ·exact⟨ho (.int k f) (by simp),hx.1.2⟩
     ·exact b3 f hf
   ·cases h
  ·cases h
variable{outs:List St}
theorem Aru(h:Den T X nt v st a w){b:Builtin}{m:Bool}(hm:VM b=some m){d:Nat}(hd:(match some d with|some d=>Nat.blt d nt|none=>true)=true){c:Call}(hcal:c.callee= .builtin b)(hr:VN m d c.args.toList st=some outs)
 {ot:TypeId}{pos aft gd}{K:Act->World->Prop}{Q:Exit->Act->World->Prop} (hK:∀a' w',IC T X nt v st (.call c) w outs a' w'->K a' w'):Oper.wp P ⟨some d,.call c,ot,pos,aft,gd⟩ a w K Q:=by
 unfold VN at hr;split at hr;rotate_left
 ·cases hr
 rename_i cs hcs;split at hr;rotate_left
 ·cases hr
 rename_i k l hl;obtain⟨e1,e2⟩:=Abh h hcs;obtain⟨f1,f2,f3⟩:=ZX hl e1 e2;obtain⟨x0,l0,rfl⟩:∃x0 l0,l=x0::l0:=by
  cases l with
  |nil=>exact absurd V f2
  |cons x l=>exact⟨x,l,rfl⟩
 have harr:(c.args.map a.eval)=(c.args.toList.map a.eval).toArray:=DB.mp (by simp);have fin:∀(n:Int),(execOp a.eval ⟨some d,.call c,ot,pos,aft,gd⟩).run P w= .ok (.value (.int k n)) w->(∃e∈x0::l0,e.ev v.ρ=n)->(∀f∈x0::l0,0<=(Ny m (.k n) f).ev v.ρ)->Oper.wp P ⟨some d,.call c,ot,pos,aft,gd⟩ a w K Q:=by
  intro n hrun he hf;obtain⟨e,he1,he2⟩:=he;unfold Oper.wp;rw[hrun,Oper.upon_value];obtain⟨l1,k1,k2⟩:=Ef hr e he1;unfold Aa2 at k1;simp only[BG]at k1;obtain⟨ss,k3,rfl⟩:=k1;obtain⟨s,s1,s2,s3,s4,s5,s6⟩:=KT h k3 (by
   intro g hg;obtain⟨f,hf1,rfl⟩:=BY.1 hg;have:=hf f hf1;cases m<;>simp only[Ny,LE.sub_ev,LE.k_ev]at this⊢<;>omega)
  have hde:DE T v (.sc (.int k e)) (.int k n):=by
   show DC T v (.int k e) _;have:=(f3 e he1).2;simp only[DC,he2]at this⊢;exact⟨trivial,by rw[<-he2];exact(f3 e he1).2⟩
  have:=s2.putO (p:=(.sc (.int k e),s)) (d:=some d) (x:=.int k n) (Ext.refl _ _) (Ay _) V s2.hp hde (by rw[show EV.ok s.next (.sc (.int k e))=e.ok s.next from rfl,s3];exact(f3 e he1).1) hd;exact hK _ _ ⟨_,k2 _ (BY.2 ⟨s,s1,rfl⟩),v,Ext.refl _ _,by show st.next<=s.next;omega,this,λ_ _ _ _ _=>rfl⟩
 have hall:=Wu (P:=P) (w:=w) (k:=k) (l0.map λe=>e.ev v.ρ) (x0.ev v.ρ);rw[Ru]at hall;have hex:∀n:Int,(n=x0.ev v.ρ\/n∈l0.map λe=>e.ev v.ρ)->∃e∈x0::l0,e.ev v.ρ=n:=by
  intro n hn;rcases hn with rfl|hn
  ·exact⟨x0,by simp,rfl⟩
  ·obtain⟨e,h1,h2⟩:=BY.1 hn;exact⟨e,by simp[h1],h2⟩
 have hargs:c.args.toList.map a.eval=Value.int k (x0.ev v.ρ)::(l0.map λe=>Value.int k (e.ev v.ρ)):=by rw[f1];rfl
 cases b<;>simp only[VM]at hm<;>cases hm
 ·obtain⟨n,h1,h2,h3,h4⟩:=hall.1;refine fin n ?_ (hex n h2) ?_
  ·have h1':((l0.map λe=>Value.int k (e.ev v.ρ)).foldlM Builtin.max2 (.int k (x0.ev v.ρ))).run P w= .ok (.int k n) w:=h1;simp[execOp,resolve,invoke,builtin,hcal,harr,hargs,Builtin.max_,h1']
  ·intro f hf;simp only[Ny,LE.sub_ev,LE.k_ev];rcases Ao.1 hf with rfl|hf
   ·omega
   ·have:=h4 (f.ev v.ρ) (BY.2 ⟨f,hf,rfl⟩);omega
 ·obtain⟨n,h1,h2,h3,h4⟩:=hall.2;refine fin n ?_ (hex n h2) ?_
  ·have h1':((l0.map λe=>Value.int k (e.ev v.ρ)).foldlM Builtin.min2 (.int k (x0.ev v.ρ))).run P w= .ok (.int k n) w:=h1;simp[execOp,resolve,invoke,builtin,hcal,harr,hargs,Builtin.min_,h1']
  ·intro f hf;simp only[Ny,LE.sub_ev,LE.k_ev];rcases Ao.1 hf with rfl|hf
   ·omega
   ·have:=h4 (f.ev v.ρ) (BY.2 ⟨f,hf,rfl⟩);omega
theorem Anm(h:Den T X nt v st a w){ext:Nat->Option Bool}(hx:ExtOK P ext){f:Nat}(hb:ext f=some b){dst:Option Nat}(hd:(match dst with|some d=>Nat.blt d nt|none=>true)=true){c:Call}(hcal:c.callee= .value (.func f))(hr:T7 b dst c.args.toList st=some outs)
 {ot:TypeId}{pos aft gd}{K:Act->World->Prop}{Q:Exit->Act->World->Prop} (hK:∀a' w',IC T X nt v st (.call c) w outs a' w'->K a' w'):Oper.wp P ⟨dst,.call c,ot,pos,aft,gd⟩ a w K Q:=by
 have harr:(c.args.map a.eval)=(c.args.toList.map a.eval).toArray:=DB.mp (by simp);have fin:∀{x:Operand}{d:Nat}{y:Value}{e:SC},c.args.toList=[x]->dst=some d->extV b (a.eval x)=some y->DC T v e y->e.ok st.next=true->outs=[Ez d (.sc e) st]->Oper.wp P ⟨dst,.call c,ot,pos,aft,gd⟩ a w K Q:=by
  intro x d y e ha hds hy hde hok ho;subst hds;have hrun:(execOp a.eval ⟨some d,.call c,ot,pos,aft,gd⟩).run P w= .ok (.value y) w:=by
   have:=hx f b hb _ _ hy w;have harr2:c.args.map a.eval=#[a.eval x]:=by rw[harr,ha];rfl
   clear hy;generalize a.eval x=x0 at this harr2;simp[execOp,resolve,invoke,Deferred.ofValue,Act.eval,hcal,harr2];exact this
  unfold Oper.wp;rw[hrun,Oper.upon_value];have hp:=h.putO (p:=(.sc e,st)) (d:=some d) (x:=y) (Ext.refl _ _) (Ay _) rfl h.hp hde hok hd;exact hK _ _ ⟨Ez d (.sc e) st,by rw[ho];exact DT.2 V,v,Ext.refl _ _,Ay _,hp,λ_ _ _ _ _=>rfl⟩
 unfold T7 at hr;split at hr;rotate_left
 ·cases hr
 rename_i x d ha;split at hr<;>cases hr
 ·rename_i e he;obtain⟨⟨h1,h2⟩,h3⟩:=Db h he;have h0:0<=e.ev v.ρ:=by have:=h2.1;simpa[Cq]using this
  refine fin ha V (y:=.int .u64 (e.ev v.ρ)) (e:=.int .u64 e) ?_ ⟨rfl,h2⟩ h3 V;rw[h1];simp only[extV,Ma h0]
 ·rename_i e he;obtain⟨⟨h1,h2⟩,h3⟩:=Db h he;refine fin ha V (y:=.float .f64 (e.ev v.ρ).toNat) (e:=.flt e) ?_ ⟨rfl,h2⟩ h3 V;rw[h1];rfl
variable{Q:Exit->Act->World->Prop}{K:Act->World->Prop}{o:Oper}{M0:Int}
theorem NV(hty:CB P G.ty)(hC:IB P G M0)(hm0:G.m0.ok X.k0=true)(hM0:G.m0.ev X.v0.ρ=M0)(h:Den G.T X G.nt v st a w)(hr:Kz G o st=some outs)
 (hK:∀a' w',IC G.T X G.nt v st o.op w outs a' w'->K a' w'):o.wp P a w K Q:=by
 unfold Kz at hr;split at hr
 ·cases hr
 rename_i hdst;have heq:∀{b:Nat},w.heap[b]? =w.heap[b]? :=rfl;split at hr
 ·--an operation that leaves memory alone
  rename_i r d hp hd;split at hr<;>cases hr;rename_i ho;obtain⟨z,v',h1,h2⟩:=Abp hty h hp;unfold Oper.wp;rw[h1 w (SeesO.self h.hp _),Oper.upon_value,hd];rw[hd]at hdst;refine hK _ _ ⟨_,DT.2 V,v',h2.ext,?_,h.put h2 ho hdst,λ_ _ _ _ _=>rfl⟩;simp only[Res.okb,Aq]at ho;exact CK ho.1.1.1.1.1
 ·rename_i hneg;clear hneg;split at hr
  ·--one that turns it
   rename_i ev st' d hm hd2;cases hr;have key:∀{s:Sem Value}{x:Value}{v':Val}{w':World},MGo P G.T X v st w s ev st' x v' w'->(execOp a.eval o).run P w= .ok (.value x) w'->o.wp P a w K Q:=by
    intro s x v' w' m hrun;unfold Oper.wp;rw[hrun,Oper.upon_value,hd2];rw[hd2]at hdst;exact hK _ _ ⟨_,DT.2 V,v',m.ext,m.next,h.putM m hdst,λq hq _ b hb=>m.keep q hq b hb⟩
   obtain⟨dst',op,ot,pos,aft,gd⟩:=o;simp only at hm hd2 hdst⊢;unfold Aaz at hm;split at hm
   ·rename_i t;obtain⟨x,v',w',m⟩:=Aeo hty h.hp hm;exact key m (by simp[execOp,m.run])
   ·rename_i t y;obtain⟨x,v',w',m⟩:=Afb (P:=P) h hm;exact key m (by simp[execOp,m.run])
   ·rename_i t len parts;have two:∃x v' w',MGo P G.T X v st w (Instr.buildSlice t len (parts.toList.map λp=>(p.1,a.eval p.2)).toArray) ev st' x v' w':=by
     split at hm
     ·split at hm
      ·rename_i r hl;cases hm;exact Ard hty h hl
      ·exact Yn hty h hm
     ·exact Yn hty h hm
    obtain⟨x,v',w',m⟩:=two;refine key m ?_;have:(parts.map λ(p:Nat×Operand)=>(p.1,a.eval p.2))=(parts.toList.map λp=>(p.1,a.eval p.2)).toArray:=DB.mp (by simp);have h5:=m.run;rw[<-this]at h5;simp only[execOp];rw[Sem.run_bind,h5];rfl
   ·rename_i t x;simp only[BV]at hm;obtain⟨cx,hcx,hm⟩:=hm;obtain⟨x,v',w',m⟩:=Aeu hty h.hp hm (Db h hcx).1;exact key m (by simp[execOp,m.run])
   ·rename_i s t x;simp only[BV]at hm;obtain⟨cx,hcx,hm⟩:=hm;have h1:=Db h hcx;obtain⟨x,v',w',m⟩:=Aew hty h.hp hm h1.1 h1.2;exact key m (by simp[execOp,m.run])
   ·rename_i s x f;simp only[BV,BG]at hm;obtain⟨e,hcx,ev',hm,he⟩:=hm;cases he;have h1:=Gz h hcx;obtain⟨x,m⟩:=An0 hty h.hp hm h1.1 h1.2;exact key m (by simp[execOp,m.run])
   ·rename_i t x y;split at hm
    ·rename_i k cx cy hlk hcx hcy;have h1:=Db h hcx;have h2:=Db h hcy;obtain⟨z,v',w',m⟩:=Aev hty h.hp hm h1.1 h1.2 h2.1;exact key m (by simp[execOp,m.run])
    ·cases hm
   ·rename_i c;split at hm
    ·rename_i hcal;split at hm
     ·rename_i x y t u hx ht;split at hm
      ·rename_i cx cy hcx hcy;have h1:=Db h hcx;have h2:=Db h hcy;have e1:c.args=#[x,y]:=DB.mp (by simpa using hx);have e2:c.argTypes=#[t,u]:=DB.mp (by simpa using ht);have fin:(∃z v' w',MGo P G.T X v st w (Builtin.append_ #[t,u] ot #[a.eval x,a.eval y]) ev st' z v' w')->Oper.wp P ⟨dst',.call c,ot,pos,aft,gd⟩ a w K Q:=by
        rintro⟨z,v',w',m⟩;refine key m ?_;simp[execOp,resolve,invoke,builtin,hcal,e1,e2,m.run]
       split at hm
       ·exact fin (Aer (ot:=ot) hty h.hp hm h1.1 h1.2 h2.1 h2.2)
       ·split at hm
        ·rename_i r hr;cases hm;exact fin (Aet (ot:=ot) hty h.hp hr h1.1 h1.2 h2.1 h2.2)
        ·exact fin (Aex (ot:=ot) hty h.hp hm h1.1 h1.2 h2.1 h2.2)
       ·cases hm
      ·cases hm
     ·cases hm
    ·cases hm
   ·cases hm
  ·--the others
   rename_i hneg;clear hneg;obtain⟨dst',op,ot,pos,aft,gd⟩:=o;simp only at hr hdst hK⊢;split at hr
   ·--pick
    rename_i c x y d;split at hr
    ·rename_i cc hcc;split at hr
     ·rename_i ts fs hb;split at hr<;>cases hr;rename_i p q hp hq;have hc:=Db h hcc;obtain⟨bb,hbb,s,h3,h4,h5,_,h7,_⟩:=OU h hb hc.1;have fin:∀(z:Operand) (l:List St),D8 (Q1 d z) (match(generalizing:=false) bb with|true=>ts|false=>fs)=some l->(∀s'∈l,s'∈p++q)->(execOp a.eval ⟨some d,.pick c x y,ot,pos,aft,gd⟩).run P w= .ok (.value (a.eval z)) w->
       Oper.wp P ⟨some d,.pick c x y,ot,pos,aft,gd⟩ a w K Q:=by
       intro z l hl hin hrun;unfold Oper.wp;rw[hrun,Oper.upon_value];obtain⟨l',k1,k2⟩:=Ef hl s h3;simp only[Q1,BG]at k1;obtain⟨e,k3,rfl⟩:=k1;have k4:=Gz h4 k3;have:=h4.putO (p:=(e,s)) (d:=some d) (Ext.refl _ _) (Ay _) rfl h4.hp k4.1 k4.2 hdst;exact hK _ _ ⟨_,hin _ (k2 _ (DT.2 V)),v,Ext.refl _ _,by show st.next<=s.next;omega,this,λ_ _ _ _ _=>rfl⟩
      cases bb with
      |true=>exact fin x p hp (λs' hs'=>by simp[hs']) (by simp[execOp,hbb,asBool])
      |false=>exact fin y q hq (λs' hs'=>by simp[hs']) (by simp[execOp,hbb,asBool])
     ·cases hr
    ·cases hr
   ·--store
    rename_i t x y;simp only[BG]at hr;obtain⟨s,hs,rfl⟩:=hr;obtain⟨w',h1,h2,h3,h4,h5⟩:=Auu hty h hs;unfold Oper.wp;rw[show(execOp a.eval ⟨none,.store t x y,ot,pos,aft,gd⟩).run P w= .ok .skip w' by simp[execOp,h1],Oper.upon_skip];refine hK _ _ ⟨s,DT.2 V,v,Ext.refl _ _,Hg h4.symm,⟨h.size,h.defers,?_,h2⟩,?_⟩
    ·intro i e hi;rw[h3]at hi;rw[h4];exact h.env i e hi
    ·intro q hq ht b hb;refine h5 q hq (λo ho=>?_) b hb;simp[Hc,ho,FC]at ht
   ·--call
    rename_i _ c;split at hr
    ·rename_i f hcal;split at hr
     ·rename_i b hb;exact Anm h hC.ext hb hdst hcal hr hK
     split at hr
     ·rename_i l hl;obtain⟨s,h1,h2,h3,h4,h4'⟩:=J6 h hl;obtain⟨l',k1,k2⟩:=Ef hr s h1;unfold Y8 at k1;split at k1
      ·rename_i evs hev;simp only[BG]at k1;obtain⟨res,k3,rfl⟩:=k1;obtain⟨con,k4,k5⟩:=Adb k3;obtain⟨e1,e2⟩:=Abi h2 hev;have hkk:=h2.hp.kk;have hm:G.m0.ev v.ρ=M0:=by rw[Bj h.hp.ext.ρ hm0];exact hM0
       have hcall:=Ag8 (P:=P) h2.hp k5 e1 e2 (LE.ok_mono hkk hm0) (f:=f) (by rw[hm];exact hC.ok f con k4);unfold Oper.wp;have harr:(c.args.map a.eval)=(c.args.toList.map a.eval).toArray:=DB.mp (by simp);have hrun:(execOp a.eval ⟨dst',.call c,ot,pos,aft,gd⟩).run P w= .ok (.enter f (c.args.toList.map a.eval).toArray) w:=by
        simp[execOp,resolve,invoke,Deferred.ofValue,Act.eval,hcal,harr,hC.run f con k4 _ _]
       rw[hrun,Oper.upon_enter];refine hcall.mono ?_;intro e w'' he;cases e with
       |panicked ch=>exact he.elim
       |outgrown=>exact he.elim
       |returned rv=>
        obtain⟨p,q1,v',q2,q3,q4,q5,q6,q7,q8⟩:=he;have hd:=h2.putO (p:=p) (d:=dst') q2 q3 q4 q5 q6 q7 hdst;refine hK _ _ ⟨_,k2 _ (BY.2 ⟨p,q1,rfl⟩),v',?_,?_,hd,?_⟩
        ·rw[<-h3];exact q2
        ·cases dst'<;>(simp only[putO,Ez];omega)
        ·intro q hq ht b hb;refine q8 q (by rw[h4];exact hq) ?_ b hb;right;intro oo hoo;cases hargs:c.args.toList with
         |nil=>rw[hargs]at hev;simp only[Kt]at hev;cases hev;simp at hoo
         |cons x xs=>
          rw[hargs]at hev;simp only[Kt]at hev;split at hev
          ·rename_i ex exs hx _;cases hev;simp only[List.head?_cons,Option.some.injEq]at hoo;subst hoo;simp only[Hc,hargs]at ht;rw[h4' x _ _ (Asa hx)]at ht;simp only[KG]at ht;cases ht
          ·cases hev
      ·cases k1
     ·cases hr
    ·rename_i b hcal;split at hr
     ·rename_i m d hm;exact Aru h hm hdst hcal hr hK
     ·cases hr
    ·cases hr
   ·cases hr
theorem Auy(h:Den T X nt v st a w){op:Op}{g:LE}(hg:WG st op=some g):∃t x y u,∃m n:Int,op= .binOp .add t x y u/\a.eval x= .int .i64 m/\a.eval y= .int .i64 n:=by
 unfold WG at hg;split at hg
 ·rename_i t x y u;split at hg
  ·rename_i e f hx hy;exact⟨_,x,y,_,_,_,rfl,(Db h hx).1.1,(Db h hy).1.1⟩
  ·cases hg
 ·cases hg
theorem Aur(hty:CB P G.ty)(hC:IB P G M0)(hm0:G.m0.ok X.k0=true)(hM0:G.m0.ev X.v0.ρ=M0)(h:Den G.T X G.nt v st a w)(hr:W8 G o st=some outs)
 (hK:∀a' w',IC G.T X G.nt v st o.op w outs a' w'->K a' w'):o.wp P a w K Q:=by
 unfold W8 at hr;split at hr
 ·exact NV hty hC hm0 hM0 h hr hK
 rename_i g hg;split at hr
 ·exact NV hty hC hm0 hM0 h hr hK
 split at hr;rotate_left
 ·cases hr
 rename_i x y d hx hy hd;split at hr;rotate_left
 ·cases hr
 rename_i l hdn hl;cases hr;obtain⟨t,ox,oy,u,mm,nn,hop,hvx,hvy⟩:=Auy h hg;by_cases hle:g.ev v.ρ<=9223372036854775807
 ·obtain⟨s,h1,h2,h3,h4,h5,h6⟩:=KT h hx (λf hf=>by
   simp only[Ao,AB,or_false]at hf;subst hf;simp only[LE.sub_ev,LE.k_ev];omega)
  obtain⟨l1,k1,k2⟩:=Ef hl s h1;refine NV hty hC hm0 hM0 h2 k1 λa' w' hc=>hK a' w' ?_;obtain⟨st',c1,v',c2,c3,c4,c5⟩:=hc;refine⟨st',Rw _ (k2 _ c1),v',by rw[<-h3];exact c2,by rw[<-h3];exact c3,c4,λq hq ht b hb=>c5 q (by rw[h5];exact hq) ?_ b hb⟩;rw[hop];rfl
 ·obtain⟨s,h1,h2,h3,h4,h5,h6⟩:=KT h hy (λf hf=>by
   simp only[Ao,AB,or_false]at hf;subst hf;simp only[LE.addk_ev];omega)
  have hin:=QW .i64 (mm+nn);have hR:ResOK G.T v s.next (FN .i64 s.next []) (.int .i64 (IntKind.i64.wrap (mm+nn))) _:=Ip hin (by simp[Holds]);have hrun:(execOp a.eval o).run P w= .ok (.value (.int .i64 (IntKind.i64.wrap (mm+nn)))) w:=by
   obtain⟨dst,op,ot,pos,aft,gd⟩:=o;simp only at hop;subst hop;simp[execOp,hvx,hvy,eqGuard,binOp,Op.intArith]
  unfold Oper.wp;rw[hrun,Oper.upon_value,hd];have hok:(FN .i64 s.next []).okb s.next=true:=by
   simp[FN,Res.facts',Res.okb,GW,EV.ok,SC.ok,LE.s,LE.ok,Bq,A_]
  refine hK _ _ ⟨_,KD _ (BY.2 ⟨s,h1,rfl⟩),_,?_,?_,h2.put hR hok hdn,λ_ _ _ _ _=>rfl⟩
  ·rw[<-h3];exact hR.ext
  ·show st.next<=s.next+1;omega
theorem Aty(h:Den T X nt v st a w):Holds v.ρ (Ww st):=by
 intro f hf;simp only[Ww,List.mem_flatMap]at hf;obtain⟨q,hq,hf⟩:=hf;split at hf;rotate_left
 ·simp at hf
 rename_i e i n m d o hg;simp only[List.mem_flatMap]at hf;obtain⟨p,hp,hf⟩:=hf;split at hf;rotate_left
 ·simp at hf
 rename_i hb;simp only[Ao,AB,or_false]at hf;subst hf;simp only[Aq]at hb;have hi:=AH hb.1.1.1;have p1:=BU h.hp.facts _ _ hb.1.1.2;have p2:=BU h.hp.facts _ _ hb.1.2;simp only[LE.sub_ev]at p1 p2;obtain⟨x,_,hx,_⟩:=h.env _ _ hg;obtain⟨h1,⟨_,_,_,h2,_⟩,h3,h4,_⟩:DC T v (.fz e i n m d o) x:=hx;obtain⟨⟨j,h5,h6⟩,_⟩:=h.hp.pres p hp;have hbig:=Nv;rw[hi]at h6;have hj:j=(v.δ i).l.length:=by omega
 rw[EG (by omega),hj,E5,h1]at h6;simp only[LE.sub_ev,LE.s_ev];omega
theorem Acx(hty:CB P G.ty)(hC:IB P G M0)(hm0:G.m0.ok X.k0=true)(hM0:G.m0.ev X.v0.ρ=M0)(h:Den G.T X G.nt v st a w)(hr:QC G o st=some outs)
 (hK:∀a' w',IC G.T X G.nt v st o.op w outs a' w'->K a' w'):o.wp P a w K Q:=by
 unfold QC at hr;split at hr
 ·exact NV hty hC hm0 hM0 h hr hK
 split at hr
 ·exact NV hty hC hm0 hM0 h hr hK
 rename_i hg;split at hr;rotate_left
 ·cases hr
 rename_i l hl;obtain⟨s,h1,h2,h3,h4,h5,h6⟩:=KT h hl (Aty h);obtain⟨l1,k1,k2⟩:=Ef hr s h1;obtain⟨_,t,ox,oy,u,hop⟩:=Aqx hg;refine Aur hty hC hm0 hM0 h2 k1 λa' w' hc=>hK a' w' ?_;obtain⟨st',c1,v',c2,c3,c4,c5⟩:=hc;refine⟨st',k2 _ c1,v',by rw[<-h3];exact c2,by rw[<-h3];exact c3,c4,λq hq ht b hb=>c5 q (by rw[h5];exact hq) ?_ b hb⟩;rw[hop];rfl
theorem Aac{g:Nat}{c:Option SC}(h:FC g c=true):∃o,c=some (.vp g o):=by
 unfold FC at h;split at h
 ·have:=AH h;subst this;exact⟨_,rfl⟩
 ·cases h
theorem Auq(hty:CB P G.ty)(hC:IB P G M0)(hm0:G.m0.ok X.k0=true)(hM0:G.m0.ev X.v0.ρ=M0)(h:Den G.T X G.nt v st a w)(hr:W7 G o st=some outs)
 (hK:∀a' w',IC G.T X G.nt v st o.op w outs a' w'->K a' w'):o.wp P a w K Q:=by
 unfold W7 at hr;split at hr;rotate_left
 ·exact Acx hty hC hm0 hM0 h hr hK
 rename_i s hf;unfold Zu at hf;split at hf;rotate_left
 ·cases hf
 rename_i t x i hop;obtain⟨v1,g,og,p,h1,h2,h3,h4,h5,h6,h7⟩:=An2 P h hf;refine Acx hty hC hm0 hM0 h3 hr λa' w' hc=>hK a' w' ?_;obtain⟨st',c1,v',c2,c3,c4,c5⟩:=hc;refine⟨st',c1,v',h1.trans c2 h2,AX h2 c3,c4,λq hq ht b hb=>?_⟩;rw[hop]at ht c5;have hqlt:q.1<st.next:=by
  have:=(h.hp.mem q hq).2;simp only[C6,Aq,A_]at this;exact this.1
 simp only[Hc,Re]at ht;have hne:q.1≠g:=by
  intro e;have:BT st (.tmp i)=some (.vp g og):=by simp[BT,DO,h5,EV.c]
  rw[this]at ht;simp[FC,e]at ht
 have hq2:q∈s.mem:=by rw[h4];exact VL hq hne
 refine c5 q hq2 ?_ b (by rw[h1.β _ hqlt];exact hb);have key:∀z,FC q.1 (BT s z)=true->FC q.1 (BT st z)=true:=by
  intro z hz;obtain⟨oo,hz'⟩:=Aac hz;cases z with
  |tmp j=>
   simp only[BT,DO,h6,Ck.get_nil,Ck.get_cons]at hz';split at hz'
   ·simp only[Cw]at hz';exact absurd (Option.some.inj hz') (h7 _ _)
   ·have:BT st (.tmp j)=some (.vp q.1 oo):=by simpa[BT,DO]using hz'
    rw[this];simp[FC]
  |const c=>exact hz
  |global c=>exact hz
  |func f=>exact hz
 simp only[Hc,Re];constructor
 ·cases hb1:FC q.1 (BT s x)with
  |false=>rfl
  |true=>rw[key _ hb1]at ht;exact absurd ht.1 (by simp)
 ·cases hb1:FC q.1 (BT s (.tmp i))with
  |false=>rfl
  |true=>rw[key _ hb1]at ht;exact absurd ht.2 (by simp)
end
def T4:Option Nat->Option Nat->Bool
 |none,none=>true
 |some a,some b=>Nat.beq a b
 |_,_=>false
def T0:BE->BE->Bool
 | .ge e,.ge f| .eq e,.eq f| .ne e,.ne f| .sq e,.sq f| .sn e,.sn f=>e.eqb f
 | .kq e q,.kq f r| .kn e q,.kn f r=>e.eqb f&&q.eqb r
 |_,_=>false
def Lb:List UInt8->List UInt8->Bool
 |[],[]=>true
 |a::l,b::k=>Nat.beq a.toNat b.toNat&&Lb l k
 |_,_=>false
theorem Zc:∀{l k:List UInt8},Lb l k=true->l=k
 |[],[],_=>rfl
 |a::l,b::k,h=>by
  simp only[Lb,Aq]at h;rw[UInt8.toNat_inj.1 (AH h.1),Zc h.2]
 |[],_::_,h=>by simp[Lb]at h
 |_::_,[],h=>by simp[Lb]at h
def Ld:List ByteArray->List ByteArray->Bool
 |[],[]=>true
 |a::l,b::k=>Lb a.data.toList b.data.toList&&Ld l k
 |_,_=>false
theorem Zh:∀{l k:List ByteArray},Ld l k=true->l=k
 |[],[],_=>rfl
 |a::l,b::k,h=>by
  simp only[Ld,Aq]at h;rw[ByteArray.ext (DB.1 (Zc h.1)),Zh h.2]
 |[],_::_,h=>by simp[Ld]at h
 |_::_,[],h=>by simp[Ld]at h
def ML:SC->SC->Bool
 | .int k e,.int k' e'=>decide (k=k')&&e.eqb e'
 | .bool e,.bool e'=>e.eqb e'
 | .cmp b,.cmp b'=>T0 b b'
 | .str e,.str e'=>e.eqb e'
 | .flt e,.flt e'=>e.eqb e'
 | .fz e i n m d o,.fz e' i' n' m' d' o'=>Nat.beq e e'&&Nat.beq i i'&&n.eqb n'&&m.eqb m'&&d.eqb d'&&T4 o o'
 | .nil,.nil=>true
 | .ar k n,.ar k' n'=>decide (k=k')&&n.eqb n'
 | .pn,.pn=>true
 | .vp g o,.vp g' o'=>Nat.beq g g'&&Nat.beq o o'
 | .fp r o,.fp r' o'=>Nat.beq r r'&&Nat.beq o o'
 | .ap k,.ap k'=>decide (k=k')
 | .pt e m d,.pt e' m' d'=>Nat.beq e e'&&m.eqb m'&&d.eqb d'
 | .kd e q,.kd e' q'=>e.eqb e'&&q.eqb q'
 | .un,.un=>true
 | .lit e ss n m d,.lit e' ss' n' m' d'=>Nat.beq e e'&&Ld ss ss'&&ES (n-n')&&ES (m-m')&&ES (d-d')
 | .sk,.sk=>true
 |_,_=>false
theorem Am_{a b:Option Nat}(h:T4 a b=true):a=b:=by
 cases a<;>cases b<;>simp only[T4]at h<;>first|rfl|cases h|rw[AH h]
theorem Am6{a b:BE}(h:T0 a b=true):a=b:=by
 cases a<;>cases b<;>simp only[T0,Aq]at h<;>first|cases h;done|rw[Dp h]|rw[Dp h.1,Dp h.2]
theorem PI{a b:SC}(h:ML a b=true):a=b:=by
 cases a<;>cases b<;>simp only[ML,Aq,decide_eq_true_eq]at h
 case int.int=>rw[h.1,Dp h.2]
 case bool.bool=>rw[Dp h]
 case cmp.cmp=>rw[Am6 h]
 case str.str=>rw[Dp h]
 case flt.flt=>rw[Dp h]
 case fz.fz=>obtain⟨⟨⟨⟨⟨h1,h2⟩,h3⟩,h4⟩,h5⟩,h6⟩:=h;rw[AH h1,AH h2,Dp h3,Dp h4,Dp h5,Am_ h6]
 case nil.nil=>rfl
 case ar.ar=>rw[h.1,Dp h.2]
 case pn.pn=>rfl
 case vp.vp=>rw[AH h.1,AH h.2]
 case fp.fp=>rw[AH h.1,AH h.2]
 case ap.ap=>rw[h]
 case pt.pt=>rw[AH h.1.1,Dp h.1.2,Dp h.2]
 case kd.kd=>rw[Dp h.1,Dp h.2]
 case un.un=>rfl
 case lit.lit=>
  obtain⟨⟨⟨⟨h1,h2⟩,h3⟩,h4⟩,h5⟩:=h;have h3:=Hy h3;have h4:=Hy h4;have h5:=Hy h5;rw[AH h1,Zh h2,show _=_ from Int.sub_eq_zero.1 h3,show _=_ from Int.sub_eq_zero.1 h4,show _=_ from Int.sub_eq_zero.1 h5]
 case sk.sk=>rfl
 all_goals cases h
def Ij:List SC->List SC->Bool
 |[],[]=>true
 |a::l,b::k=>ML a b&&Ij l k
 |_,_=>false
theorem MM:∀{a b:List SC},Ij a b=true->a=b
 |[],[],_=>rfl
 |a::l,b::k,h=>by
  simp only[Ij,Aq]at h;rw[PI h.1,MM h.2]
 |[],_::_,h=>by simp[Ij]at h
 |_::_,[],h=>by simp[Ij]at h
def PF:EV->EV->Bool
 | .sc a,.sc b=>ML a b
 | .agg a,.agg b=>Ij a b
 |_,_=>false
theorem Zd{a b:EV}(h:PF a b=true):a=b:=by
 cases a<;>cases b<;>simp only[PF]at h<;>first|cases h|rw[PI h]|rw[MM h]
def EN{α:Type}(eq:α->α->Bool):List α->List α->Bool
 |[],[]=>true
 |a::l,b::k=>eq a b&&EN eq l k
 |_,_=>false
theorem Gj{α:Type}{eq:α->α->Bool}(he:∀{a b},eq a b=true->a=b):∀{l k:List α},EN eq l k=true->l=k
 |[],[],_=>rfl
 |a::l,b::k,h=>by
  simp only[EN,Aq]at h;rw[he h.1,Gj he h.2]
 |[],_::_,h=>by simp[EN]at h
 |_::_,[],h=>by simp[EN]at h
def T1:Bool->Bool->Bool
 |true,true=>true
 |false,false=>true
 |_,_=>false
variable{b:Bool}
theorem Zb{a:Bool}(h:T1 a b=true):a=b:=by cases a<;>cases b<;>first|rfl|cases h
def PG:EV->EV->Bool
 | .tup a,.tup b=>EN (λp q=>T1 p.1 q.1&&Ij p.2 q.2) a b
 |a,b=>PF a b
theorem Ze{a b:EV}(h:PG a b=true):a=b:=by
 unfold PG at h;split at h
 ·rw[Gj (λ{p q} h=>by
   simp only[Aq]at h;obtain⟨p1,p2⟩:=p;obtain⟨q1,q2⟩:=q;simp only at h;rw[Zb h.1,MM h.2]) h]
 ·exact Zd h
def PE(p q:Nat×List SC):Bool:=Nat.beq p.1 q.1&&Ij p.2 q.2
theorem Za{p q:Nat×List SC}(h:PE p q=true):p=q:=by
 simp only[PE,Aq]at h;obtain⟨p1,p2⟩:=p;obtain⟨q1,q2⟩:=q;simp only at h;rw[AH h.1,MM h.2]
def Tx(p q:Nat×Nat×List SC):Bool:=Nat.beq p.1 q.1&&PE p.2 q.2
theorem Am4{p q:Nat×Nat×List SC}(h:Tx p q=true):p=q:=by
 simp only[Tx,Aq]at h;obtain⟨p1,p2⟩:=p;obtain⟨q1,q2⟩:=q;simp only at h;rw[AH h.1,Za h.2]
def PH(p q:Nat×LE×Nat):Bool:=Nat.beq p.1 q.1&&LE.eqb p.2.1 q.2.1&&Nat.beq p.2.2 q.2.2
theorem Zg{p q:Nat×LE×Nat}(h:PH p q=true):p=q:=by
 simp only[PH,Aq]at h;obtain⟨p1,p2,p3⟩:=p;obtain⟨q1,q2,q3⟩:=q;simp only at h;rw[AH h.1.1,Dp h.1.2,AH h.2]
def Tz(p q:Nat×Nat×Nat×LE):Bool:=Nat.beq p.1 q.1&&Nat.beq p.2.1 q.2.1&&Nat.beq p.2.2.1 q.2.2.1&&LE.eqb p.2.2.2 q.2.2.2
theorem Am5{p q:Nat×Nat×Nat×LE}(h:Tz p q=true):p=q:=by
 simp only[Tz,Aq]at h;obtain⟨p1,p2,p3,p4⟩:=p;obtain⟨q1,q2,q3,q4⟩:=q;simp only at h;rw[AH h.1.1.1,AH h.1.1.2,AH h.1.2,Dp h.2]
def T3(p q:Nat×List LE):Bool:=Nat.beq p.1 q.1&&EN LE.eqb p.2 q.2
theorem Am9{p q:Nat×List LE}(h:T3 p q=true):p=q:=by
 simp only[T3,Aq]at h;obtain⟨p1,p2⟩:=p;obtain⟨q1,q2⟩:=q;simp only at h;rw[AH h.1,Gj (λh=>Dp h) h.2]
theorem Vv{α:Type}:∀(p t:List (Nat×α)) (i:Nat),get (p++t) i=match get p i with|some e=>some e|none=>get t i
 |[],t,i=>rfl
 |(j,x)::p,t,i=>by
  simp only[CL,get_cons,Vv p t i];cases Nat.beq j i<;>rfl
def T2(n0:Nat)(e1 e2:List (Nat×EV)):Bool:=
 let p1:=e1.take (e1.length-n0);let p2:=e2.take (e2.length-n0);p1.all (λq=>match Ck.get p1 q.1,Ck.get p2 q.1 with|some a,some b=>PG a b|_,_=>false)&&p2.all (λq=>(Ck.get p1 q.1).isSome)&&
  EN (λp q=>Nat.beq p.1 q.1&&PG p.2 q.2) (e1.drop (e1.length-n0)) (e2.drop (e2.length-n0))
variable{n0:Nat}
theorem Am7{e1 e2:List (Nat×EV)}(h:T2 n0 e1 e2=true){i:Nat}{e:EV}(hi:Ck.get e1 i=some e):Ck.get e2 i=some e:=by
 simp only[T2,Aq,Bg]at h;obtain⟨⟨h1,h2⟩,h3⟩:=h;have ht:=Gj (λ{p q} h=>by
  simp only[Aq]at h;obtain⟨a,b⟩:=p;obtain⟨c,d⟩:=q;simp only at h;rw[AH h.1,Ze h.2]) h3
 have s1:=IG (e1.length-n0) e1;have s2:=IG (e2.length-n0) e2;rw[<-s1,Vv]at hi;rw[<-s2,Vv,<-ht];cases hg:Ck.get (e1.take (e1.length-n0)) i with
 |some x=>
  rw[hg]at hi;cases hi;have:=h1 _ (Eh hg);simp only[hg]at this;split at this
  ·rename_i a b ha hb;cases ha;rw[hb,Ze this]
  ·cases this
 |none=>
  rw[hg]at hi;cases hg2:Ck.get (e2.take (e2.length-n0)) i with
  |none=>exact hi
  |some y=>
   have:=h2 _ (Eh hg2);simp only[hg]at this;cases this
def Q_(n0:Nat)(s t:St):Bool:=
 Nat.beq s.next t.next&&T2 n0 s.env t.env&&EN Tx s.mem t.mem&&EN Tz s.own t.own&&EN PE s.rows t.rows&&EN PH s.pres t.pres&&EN PH s.rix t.rix&&EN LE.eqb s.facts t.facts&&EN T3 s.maxs t.maxs
variable{s:St}
theorem Ach{t:St}(h:Q_ n0 s t=true):s.next=t.next/\(∀i e,Ck.get s.env i=some e->Ck.get t.env i=some e)/\s={t with env:=s.env}:=by
 simp only[Q_,Aq]at h;obtain⟨⟨⟨⟨⟨⟨⟨⟨h1,h2⟩,h3⟩,h4⟩,h5⟩,h6⟩,h7⟩,h8⟩,h9⟩:=h;have h1:=AH h1;refine⟨h1,λi e=>Am7 h2,?_⟩;obtain⟨a1,a2,a3,a4,a5,a6,a7,a8,a9⟩:=s;obtain⟨b1,b2,b3,b4,b5,b6,b7,b8,b9⟩:=t;simp only at*;rw[Gj Am4 h3,Gj Am5 h4,Gj Za h5,Gj Zg h6,Gj Zg h7,Gj (λh=>Dp h) h8,Gj Am9 h9,h1]
variable{nt:Nat}{T:Ar}
theorem Den.same{X:Cx}{v:Val}{t:St}{a:Act}{w:World}(h:Q_ n0 s t=true)(d:Den T X nt v t a w):Den T X nt v s a w:=by
 obtain⟨h1,h2,h3⟩:=Ach h;refine⟨d.size,d.defers,λi e hi=>?_,?_⟩
 ·rw[h1];exact d.env i e (h2 i e hi)
 ·rw[h3];exact d.hp.env _
def dropE(d:Nat)(s:St):St:=Ez d (.tup []) s
def PY(ops:Array Oper)(g:Option (Nat×Bool))(st:St):Option (List St×List St):=
 match g with
 |none=>some ([st],[])
 |some (j,want)=>match(ops[j]?).bind (·.dst)with
  |some dj=>match Ck.get st.env dj with
   |some (.sc c)=>match KV st c with
    |some (ts,fs)=>match want with
     |true=>some (ts.map (Ez dj (.sc (.bool (.k 1)))),fs.map (Ez dj (.sc (.bool (.k 0)))))
     |false=>some (fs.map (Ez dj (.sc (.bool (.k 0)))),ts.map (Ez dj (.sc (.bool (.k 1)))))
    |none=>none
   |some (.tup _)=>some ([],[st])
   |_=>none
  |none=>none
def LF(G:C4)(ops:Array Oper)(o:Oper)(st:St):Option (List St):=
 match PY ops o.guard st with
 |some (ys,ns)=>match D8 (W7 G o) ys with
  |some l=>match ns,o.dst with
   |[],_=>some l
   |ns,some d=>match Nat.blt d G.nt with
    |true=>some (l++ns.map (dropE d))
    |false=>none
   |_,none=>none
  |none=>none
 |none=>none
def NH(G:C4)(ops:Array Oper):List Oper->St->Option (List St)
 |[],st=>some [st]
 |o::rest,st=>match LF G ops o st with
  |some l=>D8 (NH G ops rest) l
  |none=>none
def Xm(T:Ar)(X:Cx)(nt:Nat)(v:Val)(st:St)(outs:List St)(a':Act)(w':World):Prop:=
 ∃st'∈outs,∃v',Ext st.next v v'/\st.next<=st'.next/\Den T X nt v' st' a' w'
section
variable{P:Program}{G:C4}{X:Cx}{v v':Val}{st st':St}{a:Act}{w w':World}{k k':Nat}{ops:Array Oper}
variable{o:Oper}
theorem ZE(h:Den T X nt v st a w){ys ns:List St}(hg:PY ops o.guard st=some (ys,ns)):
 (Region.wanted o (yielded ops a.tmps)=true/\∃s∈ys,Den T X nt v s a w/\s.next=st.next/\s.mem=st.mem/\SameVp s st)\/
 (Region.wanted o (yielded ops a.tmps)=false/\∃s∈ns,Den T X nt v s a w/\s.next=st.next/\s.mem=st.mem/\SameVp s st):=by
 unfold PY at hg;split at hg
 ·rename_i hgn;cases hg;exact .inl ⟨by simp[Region.wanted,hgn],st,by simp,h,rfl,rfl,λ_ _ _ h=>h⟩
 ·rename_i j want hgn;split at hg
  ·rename_i dj hdj;split at hg
   ·rename_i c hc;obtain⟨x,h1,h2,_⟩:=h.env _ _ hc;split at hg
    ·rename_i ts fs hb;obtain⟨bb,rfl,s,h3,h4,h5,h5',h7,_⟩:=OU h hb h2;have h6:=h4.setBool h1;have hw:Region.wanted o (yielded ops a.tmps)=(bb==want):=by
      simp[Region.wanted,hgn,yielded,hdj,h1]
     cases want<;>cases hg<;>cases bb
     ·exact .inl ⟨hw,_,BY.2 ⟨s,h3,rfl⟩,h6,h5,h7,SameVp.set h5'⟩
     ·exact .inr ⟨hw,_,BY.2 ⟨s,h3,rfl⟩,h6,h5,h7,SameVp.set h5'⟩
     ·exact .inr ⟨hw,_,BY.2 ⟨s,h3,rfl⟩,h6,h5,h7,SameVp.set h5'⟩
     ·exact .inl ⟨hw,_,BY.2 ⟨s,h3,rfl⟩,h6,h5,h7,SameVp.set h5'⟩
    ·cases hg
   ·rename_i l hc;cases hg;obtain⟨x,h1,⟨xs,rfl,_⟩,_⟩:=h.env _ _ hc;exact .inr ⟨by simp[Region.wanted,hgn,yielded,hdj,h1],st,by simp,h,rfl,rfl,λ_ _ _ h=>h⟩
   ·cases hg
  ·cases hg
theorem Den.dropE(h:Den T X nt v st a w){d:Nat}(hd:Nat.blt d nt=true):Den T X nt v (dropE d st) (a.put (some d) undef) w:=by
 have:=h.putO (p:=(.tup [],st)) (d:=some d) (x:=undef) (Ext.refl _ _) (Ay _) rfl h.hp (show DE T v (.tup []) undef from⟨[],rfl,trivial⟩) rfl hd;exact this
variable{Q:Exit->Act->World->Prop}{K:Act->World->Prop}{outs:List St}{M0:Int}
theorem Acw(hty:CB P G.ty)(hC:IB P G M0)(hm0:G.m0.ok X.k0=true)(hM0:G.m0.ev X.v0.ρ=M0)(h:Den G.T X G.nt v st a w)(hr:LF G ops o st=some outs)
 (hK:∀a' w',IC G.T X G.nt v st o.op w outs a' w'->K a' w'):
 if Region.wanted o (yielded ops a.tmps)then o.wp P a w K Q else K (a.put o.dst undef) w:=by
 unfold LF at hr;split at hr
 ·rename_i ys ns hg;split at hr
  ·rename_i l hl;have hin:∀s∈l,s∈outs:=by
    intro s hs;split at hr
    ·cases hr;exact hs
    ·split at hr<;>cases hr;simp[hs]
    ·cases hr
   rcases ZE h hg with⟨hw,s,h1,h2,h3,h4,h5⟩|⟨hw,s,h1,h2,h3,h4,h5⟩
   ·rw[if_pos hw];obtain⟨l',k1,k2⟩:=Ef hl s h1;refine Auq hty hC hm0 hM0 h2 k1 λa' w' hc=>hK a' w' ?_;obtain⟨st',c1,v',c2,c3,c4,c5⟩:=hc;refine⟨st',hin _ (k2 _ c1),v',by rw[<-h3];exact c2,by rw[<-h3];exact c3,c4,λq hq ht b hb=>c5 q (by rw[h4];exact hq) ?_ b hb⟩
    --what s touches st touches
    cases htb:Hc s o.op q.1 with
    |false=>rfl
    |true=>
     exfalso;have:Hc st o.op q.1=true:=by
      unfold Hc at htb⊢;split at htb
      ·rename_i t x y;have up:∀z,FC q.1 (BT s z)=true->FC q.1 (BT st z)=true:=by
        intro z hz;obtain⟨oo,hx⟩:=Aac hz;have hx':DO s z=some (.sc (.vp q.1 oo)):=by
         unfold BT at hx;simp only[BV]at hx;obtain⟨e,e1,e2⟩:=hx;cases e<;>cases e2;exact e1
        have:=h5 _ _ _ hx';simp[BT,this,EV.c,FC]
       simp only[HM]at htb⊢;exact htb.imp (up _) (up _)
      ·rename_i c;split at htb
       ·rename_i x xs hargs;split at htb
        ·rename_i g' oo hx;rw[h5 _ _ _ hx];exact htb
        ·cases htb
       ·cases htb
      ·cases htb
     rw[ht]at this;cases this
   ·have hwf:¬Region.wanted o (yielded ops a.tmps)=true:=by rw[hw];simp
    rw[if_neg hwf];split at hr
    ·simp at h1
    ·rename_i d hd;split at hr<;>cases hr;rename_i hdd;rw[hd];exact hK _ _ ⟨_,KD _ (BY.2 ⟨s,h1,rfl⟩),v,Ext.refl _ _,Hg h3.symm,h2.dropE hdd,λ_ _ _ _ _=>rfl⟩
    ·cases hr
  ·cases hr
 ·cases hr
theorem Ab1(hty:CB P G.ty){M0:Int}(hC:IB P G M0)(hm0:G.m0.ok X.k0=true)(hM0:G.m0.ev X.v0.ρ=M0){Q:Exit->Act->World->Prop}:∀{l:List Oper}{v:Val}{st:St}{a:Act}{w:World}{outs:List St},Den G.T X G.nt v st a w->NH G ops l st=some outs->
 (∀a' w',Xm G.T X G.nt v st outs a' w'->Q .normal a' w')->wpList P ops Q l a w
 |[],v,st,a,w,outs,h,hr,hQ=>by
  simp only[NH]at hr;cases hr;exact hQ a w ⟨st,by simp,v,Ext.refl _ _,Ay _,h⟩
 |o::l,v,st,a,w,outs,h,hr,hQ=>by
  simp only[NH]at hr;split at hr
  ·rename_i l1 hl;have key:∀a' w',IC G.T X G.nt v st o.op w l1 a' w'->wpList P ops Q l a' w':=by
    intro a' w' hc;obtain⟨st',c1,v',c2,c3,c4,_⟩:=hc;obtain⟨l2,k1,k2⟩:=Ef hr st' c1;refine Ab1 hty hC hm0 hM0 c4 k1 λa'' w'' hl=>hQ a'' w'' ?_;obtain⟨s,s1,v2,s2,s3,s4⟩:=hl;exact⟨s,k2 s s1,v2,c2.trans s2 c3,AX c3 s3,s4⟩
   have:=Acw hty hC hm0 hM0 h hl (K:=wpList P ops Q l) (Q:=Q) key;unfold wpList;split
   ·rename_i hw;rw[if_pos hw]at this;exact .inl this
   ·rename_i hw;rw[if_neg hw]at this;exact this
  ·cases hr
def Lw(g:Nat):List Nat->Bool
 |[]=>false
 |h::l=>Nat.beq h g||Lw g l
theorem Aaw{g:Nat}:∀{l:List Nat},Lw g l=true->g∈l
 |h::l,hh=>by
  simp only[Lw,HM]at hh;rcases hh with hh|hh
  ·rw[AH hh];exact E4
  ·exact Ft _ (Aaw hh)
def Acy(st:St)(gs:List Nat)(op:Op):Bool:=match Wg st op with
 | .no=>true
 | .blk g=>Lw g gs
 | .row=>false
def WI(G:C4)(ops:Array Oper)(gs:List Nat)(o:Oper)(st:St):Option (List St):=
 match o.dst with
 |none=>none
 |some d=>match Nat.blt d G.nt,PY ops o.guard st with
  |true,some (ys,ns)=>match D8 (λs=>match Acy s gs o.op,Q4 G.T G.ty s o.op with
   |true,some r=>match r.okb s.next with
    |true=>some [s.put d r]
    |false=>none
   |_,_=>none) ys with
   |some l=>some (l++ns.map (dropE d))
   |none=>none
  |_,_=>none
def MT(G:C4)(ops:Array Oper)(gs:List Nat)(listed:Array Bool)(st:St):List Nat->Option (Nat×List St)
 |[]=>none
 |i::is=>match Region.free .any ops listed i,ops[i]? with
  |true,some o=>match WI G ops gs o st with
   |some l=>some (i,l)
   |none=>MT G ops gs listed st is
  |_,_=>MT G ops gs listed st is
def VR(G:C4)(ops:Array Oper)(gs:List Nat)(x:Array Bool×St):Option (List St×List (Array Bool×St)):=
 match Region.ready .any ops x.1 with
 |[]=>some ([x.2],[])
 |r::rs=>match MT G ops gs x.1 x.2 (r::rs)with
  |some (i,l)=>some ([],l.map λs=>(x.1.setIfInBounds i true,s))
  |none=>(D8 (λi=>match ops[i]? with
   |some o=>match gs.all (λg=>!Hc x.2 o.op g&&(Ck.get x.2.mem g).isSome),LF G ops o x.2 with
    |true,some l=>some (l.map λs=>(x.1.setIfInBounds i true,s))
    |_,_=>none
   |none=>none) (r::rs)).map λl=>([],l)
def Qw(G:C4)(ops:Array Oper)(gs:List Nat):List (Array Bool×St)->Option (List St×List (Array Bool×St))
 |[]=>some ([],[])
 |x::l=>match VR G ops gs x,Qw G ops gs l with
  |some (a,b),some (c,d)=>some (a++c,b++d)
  |_,_=>none
def Wv(n0:Nat)(x y:Array Bool×St):Bool:=EN T1 x.1.toList y.1.toList&&Q_ n0 x.2 y.2
def L3(n0:Nat):List (Array Bool×St)->List (Array Bool×St)->List (Array Bool×St)
 |[],acc=>acc
 |x::l,acc=>match acc.any (λy=>Wv n0 y x)with
  |true=>L3 n0 l acc
  |false=>L3 n0 l (x::acc)
def Mx(G:C4)(ops:Array Oper)(gs:List Nat)(n0:Nat):Nat->List (Array Bool×St)->Option (List St)
 |0,l=>match l.all λx=>(Region.ready .any ops x.1).isEmpty with
  |true=>some (l.map (·.2))
  |false=>none
 |f+1,l=>match Qw G ops gs l with
  |some (a,b)=>(Mx G ops gs n0 f (L3 n0 b [])).map λc=>a++c
  |none=>none
def NZ(G:C4)(ops:Array Oper):List Oper->St->List Nat->List Nat
 |[],_,gs=>gs
 |o::rest,st,gs=>
  let gs':=gs.filter λg=>!Hc st o.op g;match LF G ops o st with
  |some (s::_)=>NZ G ops rest s gs'
  |_=>[]
def Yd(G:C4)(ops:Array Oper)(st:St):Option (List St):=
 match Region.noSelect ops with
 |true=>Mx G ops (NZ G ops ops.toList st (st.mem.map (·.1))) st.env.length ops.size [(Array.replicate ops.size false,st)]
 |false=>none
theorem TE{gs:List Nat}{listed:Array Bool}:∀{is:List Nat}{i:Nat}{l:List St},MT G ops gs listed st is=some (i,l)->i∈is/\Region.free .any ops listed i=true/\∃o,ops[i]? =some o/\WI G ops gs o st=some l
 |j::is,i,l,h=>by
  simp only[MT]at h;split at h
  ·rename_i o hf ho;split at h
   ·rename_i l' hl;cases h;exact⟨by simp,hf,o,ho,hl⟩
   ·obtain⟨h1,h2⟩:=TE h;exact⟨by simp[h1],h2⟩
  ·obtain⟨h1,h2⟩:=TE h;exact⟨by simp[h1],h2⟩
def Hi(v0:Val)(w0:World)(gs:List Nat)(w':World):Prop:=∀g∈gs,∀b,v0.β g=some b->w'.heap[b]? =w0.heap[b]?
theorem Aa7{gs:List Nat}:∀{l:List (Array Bool×St)}{a:List St}{b:List (Array Bool×St)},Qw G ops gs l=some (a,b)->∀x∈l,∃c d,VR G ops gs x=some (c,d)/\(∀s∈c,s∈a)/\∀y∈d,y∈b
 |[],a,b,h,x,hx=>by simp at hx
 |y::l,a,b,h,x,hx=>by
  simp only[Qw]at h;split at h
  ·rename_i c d c' d' h1 h2;cases h;rcases Ao.1 hx with rfl|hx
   ·exact⟨c,d,h1,λs hs=>by simp[hs],λy hy=>by simp[hy]⟩
   ·obtain⟨e,f,k1,k2,k3⟩:=Aa7 h2 x hx;exact⟨e,f,k1,λs hs=>by simp[k2 s hs],λy hy=>by simp[k3 y hy]⟩
  ·cases h
theorem VW{n0:Nat}:∀{l acc:List (Array Bool×St)},(∀x∈acc,x∈L3 n0 l acc)/\∀x∈l,∃y∈L3 n0 l acc,y=x\/Wv n0 y x=true
 |[],acc=>⟨λx hx=>hx,λx hx=>by simp at hx⟩
 |z::l,acc=>by
  simp only[L3];split
  ·rename_i ha;obtain⟨h1,h2⟩:=VW (n0:=n0) (l:=l) (acc:=acc);refine⟨h1,λx hx=>?_⟩;rcases Ao.1 hx with rfl|hx
   ·simp only[Md]at ha;obtain⟨y,h3,h4⟩:=ha;exact⟨y,h1 y h3,.inr h4⟩
   ·exact h2 x hx
  ·obtain⟨h1,h2⟩:=VW (n0:=n0) (l:=l) (acc:=z::acc);refine⟨λx hx=>h1 x (by simp[hx]),λx hx=>?_⟩;rcases Ao.1 hx with rfl|hx
   ·exact⟨x,h1 x (by simp),.inl V⟩
   ·exact h2 x hx
theorem Yc(hty:CB P G.ty){M0:Int}(hC:IB P G M0)(hm0:G.m0.ok X.k0=true)(hM0:G.m0.ev X.v0.ρ=M0){Q:Exit->Act->World->Prop}(hQ:∀c a w d y,Q (.panic c) (a.put d y) w->Q (.panic c) a w)(hns:Region.noSelect ops=true){v0:Val}{w0:World}{st0:St}{gs:List Nat}{n0:Nat}
 (hg0:∀g∈gs,g<st0.next):∀{f:Nat}{L:List (Array Bool×St)}{outs:List St},Mx G ops gs n0 f L=some outs->∀{listed:Array Bool}{v:Val}{st:St}{a:Act}{w:World},(listed,st)∈L->Den G.T X G.nt v st a w->Ext st0.next v0 v->st0.next<=st.next->Hi v0 w0 gs w->
 (∀a' w',Xm G.T X G.nt v st outs a' w'->Q .normal a' w')->wpAnyH P .any ops Q (Hi v0 w0 gs) f listed a w
 |0,L,outs,hr,listed,v,st,a,w,hm,h,hx0,hn0,hS,hK=>by
  simp only[Mx]at hr;split at hr<;>cases hr;rename_i hall;simp only[Bg]at hall;have hrd:Region.ready .any ops listed=[]:=List.isEmpty_iff.1 (hall _ hm);exact⟨hrd,hK a w ⟨st,BY.2 ⟨_,hm,rfl⟩,v,Ext.refl _ _,Ay _,h⟩⟩
 |f+1,L,outs,hr,listed,v,st,a,w,hm,h,hx0,hn0,hS,hK=>by
  simp only[Mx]at hr;split at hr;rotate_left
  ·cases hr
  rename_i fa fb hall;simp only[BG]at hr;obtain⟨o2,hr2,rfl⟩:=hr;obtain⟨c,d,hg,hcs,hds⟩:=Aa7 hall _ hm;have later:∀(listed':Array Bool) (s':St) (v':Val) (a':Act) (w':World),(listed',s')∈d->Ext st.next v v'->st.next<=s'.next->Den G.T X G.nt v' s' a' w'->Hi v0 w0 gs w'->wpAnyH P .any ops Q (Hi v0 w0 gs) f listed' a' w':=by
   intro listed' s' v' a' w' hd hx hn hden hst;obtain⟨y,hy1,hy2⟩:=(VW (n0:=n0) (l:=fb) (acc:=[])).2 _ (hds _ hd);obtain⟨ly,sy⟩:=y;have key:ly=listed'/\sy.next=s'.next/\Den G.T X G.nt v' sy a' w':=by
    rcases hy2 with hy2|hy2
    ·cases hy2;exact⟨rfl,rfl,hden⟩
    ·simp only[Wv,Aq]at hy2;exact⟨DB.1 (Gj Zb hy2.1),(Ach hy2.2).1,Den.same hy2.2 hden⟩
   obtain⟨rfl,hnx,hdy⟩:=key;refine Yc hty hC hm0 hM0 hQ hns hg0 hr2 hy1 hdy (hx0.trans hx hn0) (by omega) hst λa'' w'' hl=>hK a'' w'' ?_;obtain⟨s2,c1,v2,c2,c3,c4⟩:=hl;exact⟨s2,by simp[c1],v2,hx.trans c2 (by omega),by omega,c4⟩
  unfold VR at hg;split at hg
  ·rename_i hrd;cases hg;exact wpAnyH_done hrd (hK a w ⟨st,by simp[hcs st (by simp)],v,Ext.refl _ _,Ay _,h⟩) _
  ·rename_i r rs hrd;simp only at hrd hg;split at hg
   ·--one that may be taken first
    rename_i i l hft;cases hg;obtain⟨hi,hfree,o,ho,htk⟩:=TE hft;unfold WI at htk;split at htk
    ·cases htk
    rename_i dd hd;split at htk
    ·rename_i ys ns hdn hg;split at htk
     ·rename_i l1 hl1;cases htk;have go:∀{x:Value}{s':St}{v':Val},s'∈l1++ns.map (dropE dd)->Ext st.next v v'->st.next<=s'.next->s'.mem=st.mem->Den G.T X G.nt v' s' (a.put (some dd) x) w->YieldsIf P ops (Hi v0 w0 gs) o x a->wpAnyH P .any ops Q (Hi v0 w0 gs) (f+1) listed a w:=by
       intro x s' v' hs' hx hn hm hden hy;have hmem:(listed.setIfInBounds i true,s')∈(l1++ns.map (dropE dd)).map λs=>(listed.setIfInBounds i true,s):=BY.2 ⟨s',hs',rfl⟩;refine wpAnyH_take ho hns hfree (by rw[hrd];simpa using hi) (λc a w=>hQ c a w _ _) hy hS ?_;rw[hd];exact later _ _ _ _ _ hmem hx hn hden hS
      rcases ZE h hg with⟨hw,s,h1,h2,h3,h4,h5⟩|⟨hw,s,h1,h2,h3,h4,h5⟩
      ·obtain⟨l2,k1,k2⟩:=Ef hl1 s h1;split at k1
       ·rename_i rr hst hpu;split at k1<;>cases k1;rename_i hok;obtain⟨z,v',e1,e2⟩:=Abp hty h2 hpu;have hn:s.next<=(s.put dd rr).next:=by
         simp only[Res.okb,Aq]at hok;exact CK hok.1.1.1.1.1
        refine go (Rw _ (k2 _ (DT.2 V))) (by rw[<-h3];exact e2.ext) (by rw[<-h3];exact hn) h4 (h2.put e2 hok hdn) (.inl ⟨hw,λw' hw'=>e1 w' ?_⟩);unfold SeesO;unfold Acy at hst;split at hst
        ·rename_i hrd';rw[hrd'];trivial
        ·rename_i g hrd';rw[hrd'];intro b hb;have hgm:=Aaw hst;have hb0:v0.β g=some b:=by rw[<-hx0.β g (hg0 g hgm)];exact hb
         exact(hw' g hgm b hb0).trans (hS g hgm b hb0).symm
        ·cases hst
       ·cases k1
      ·exact go (KD _ (BY.2 ⟨s,h1,rfl⟩)) (Ext.refl _ _) (Hg h3.symm) h4 (h2.dropE hdn) (.inr ⟨hw,rfl⟩)
     ·cases htk
    ·cases htk
   ·--whichever comes up
    simp only[BG]at hg;obtain⟨dl,hcat,hpair⟩:=hg;cases hpair
    --every one that is ready leads on
    have each:∀i∈r::rs,∃o,ops[i]? =some o/\∃l2,gs.all (λg=>!Hc st o.op g&&(Ck.get st.mem g).isSome)=true/\LF G ops o st=some l2/\∀s∈l2,(listed.setIfInBounds i true,s)∈d:=by
     intro i hi;obtain⟨l1,k1,k2⟩:=Ef hcat i hi;split at k1
     ·rename_i o ho;split at k1
      ·rename_i l2 htb hsg;cases k1;exact⟨o,ho,l2,htb,hsg,λs hs=>k2 _ (BY.2 ⟨s,hs,rfl⟩)⟩
      ·cases k1
     ·cases k1
    refine wpAnyH_all hrd (by simp) λi hi=>?_;obtain⟨o,ho,l2,htb,hsg,hl2⟩:=each i hi;simp only[Bg]at htb;have:=Acw hty hC hm0 hM0 h hsg (Q:=Q) (K:=λa' w'=>Hi v0 w0 gs w'/\wpAnyH P .any ops Q (Hi v0 w0 gs) f (listed.setIfInBounds i true) a' w') λa' w' hc=>?_
    ·unfold wpOp;rw[ho];simp only;split
     ·rename_i hw;rw[if_pos hw]at this;exact .inl this
     ·rename_i hw;rw[if_neg hw]at this;exact this
    ·obtain⟨st',c1,v',c2,c3,c4,c5⟩:=hc;have hS':Hi v0 w0 gs w':=by
      intro g hgm b hb;have hboth:=htb g hgm;simp only[Aq,JF,Xu]at hboth;obtain⟨q,hq⟩:=hboth.2;have hq:=Eh hq;have hbv:v.β g=some b:=by rw[hx0.β g (hg0 g hgm)];exact hb
      exact(c5 (g,q) hq hboth.1 b hbv).trans (hS g hgm b hb)
     exact⟨hS',later _ _ _ _ _ (hl2 _ c1) c2 c3 c4 hS'⟩
end
structure BL where
 slots:List (Nat×PA)
 vars:List (Nat×List (Option A7))
 ro:List Nat
 roc:List (Nat×Nat)
 facts:List Tm
 meas:Tm
 gh:List SC:=[]
def NS(st:St):List (Nat×PA)->Option (List EV)
 |[]=>some []
 |(t,_)::l=>match Ck.get st.env t,NS st l with
  |some e,some es=>some (e::es)
  |_,_=>none
def Adn(st:St):List (Nat×List (Option A7))->Option (List (Nat×List (Option A7)))
 |[]=>some []
 |(t,ps)::l=>match Ck.get st.env t,Adn st l with
  |some (.sc (.vp g 0)),some es=>some ((g,ps)::es)
  |_,_=>none
def NF(st:St):List Nat->Option (List SC)
 |[]=>some []
 |t::l=>match Ck.get st.env t,NF st l with
  |some (.sc c),some cs=>some (c::cs)
  |_,_=>none
def NG(st:St):List (Nat×Nat)->Option (List SC)
 |[]=>some []
 |(t,o)::l=>match Ck.get st.env t,NG st l with
  |some (.sc (.vp g 0)),some cs=>match Ck.get st.mem g with
   |some (_,q)=>match q[o]? with
    |some c=>some (c::cs)
    |none=>none
   |none=>none
  |_,_=>none
def J2(pm:List (Nat×List (Option A7)))(g:Nat)(cs:List SC):List (Option A7):=match Ck.get pm g with
 |some p=>p
 |none=>cs.map λ_=>none
def Aay(pm:List (Nat×List (Option A7))):List (Nat×Nat×List SC)->List A7
 |[]=>[]
 |(g,_,cs)::l=>CQ (J2 pm g cs)++Aay pm l
def Ee:List (Option A7)->List SC->List SC->Option (List SC)
 |[],[],[]=>some []
 |none::ps,c::cs,d::ds=>match ML d c with
  |true=>Ee ps cs ds
  |false=>none
 |some _::ps,_::cs,d::ds=>(Ee ps cs ds).map (d::·)
 |_,_,_=>none
def Nx(pm:List (Nat×List (Option A7)))(st:St):List (Nat×Nat×List SC)->Option (List SC)
 |[]=>some []
 |(g,t,cs)::l=>match Ck.get st.mem g,Nx pm st l with
  |some (t',ds),some r=>match Nat.beq t' t,Ee (J2 pm g cs) cs ds with
   |true,some x=>some (x++r)
   |_,_=>none
  |_,_=>none
def Jv(pm:List (Nat×List (Option A7))):List (Nat×Nat×List SC)->List SC->Option (List (Nat×Nat×List SC))
 |[],[]=>some []
 |(g,t,cs)::l,r=>
  let n:=(CQ (J2 pm g cs)).length;match D_ (J2 pm g cs) cs (r.take n),Jv pm l (r.drop n)with
  |some x,some y=>some ((g,t,x)::y)
  |_,_=>none
 |_,_=>none
def G6:List (Nat×PA)->List SC->Option (List (Nat×EV)×List SC)
 |[],r=>some ([],r)
 |(t,.one _)::l,c::r=>(G6 l r).map λp=>((t,.sc c)::p.1,p.2)
 |(t,.agg q)::l,r=>match Nat.ble q.length r.length with
  |true=>(G6 l (r.drop q.length)).map λp=>((t,.agg (r.take q.length))::p.1,p.2)
  |false=>none
 |_,_=>none
def Kk(asg:List Nat):List (Nat×EV)->List Nat->List (Nat×EV)
 |[],_=>[]
 |(i,e)::l,seen=>match Lw i seen||Lw i asg with
  |true=>Kk asg l (i::seen)
  |false=>match e with
   | .tup _=>Kk asg l (i::seen)
   |_=>(i,e)::Kk asg l (i::seen)
def Fm(h:BL)(pm:List (Nat×List (Option A7)))(st0:St):List A7:=BQ (h.slots.map (·.2))++Aay pm st0.mem
def NE(st:St)(h:BL):Option (List SC):=match NF st h.ro,NG st h.roc with
 |some a,some b=>some (a++b++h.gh)
 |_,_=>none
def Qq(T:Ar)(st0:St)(base:List (Nat×EV))(pm:List (Nat×List (Option A7)))(h:BL):Option (List St×List SC×List SC):=
 match BD (Fm h pm st0) st0.next with
 |(tc,fs,os,k1)=>match G6 h.slots tc with
  |some (sl,r)=>match Jv pm st0.mem r with
   |some mem=>match NE {st0 with env:=sl++base,mem:=mem,own:=os,facts:=fs++st0.facts,maxs:=[]++st0.maxs,next:=k1} h with
    |some rr=>match rr.all (SC.ok st0.next)with
     |true=>match J9 (Bd (Fm h pm st0) tc++rr) h.facts {st0 with env:=sl++base,mem:=mem,own:=os,facts:=fs++st0.facts,maxs:=[]++st0.maxs,next:=k1}with
      |some (es,st2)=>(L7 st2 es).map λl=>(l,Bd (Fm h pm st0) tc++rr,rr)
      |none=>none
     |false=>none
    |none=>none
   |none=>none
  |none=>none
def Qo(T:Ar)(st0:St)(base:List (Nat×EV))(pm:List (Nat×List (Option A7)))(h:BL)(rr:List SC)(st:St):Option (St×List SC):=
 match NS st h.slots,Nx pm st st0.mem,NE st h with
 |some es,some mc,some ro=>match Hl (h.slots.map (·.2)) es with
  |some ac=>match Hz T st (Fm h pm st0) (ac++mc)with
   |some gs=>match L1 gs&&Ij ro rr&&(base.all λp=>match Ck.get st.env p.1 with|some e=>PF e p.2|none=>false)with
    |true=>match Ix (Bd (Fm h pm st0) (ac++mc)++rr) h.facts st with
     |some st1=>some (st1,Bd (Fm h pm st0) (ac++mc)++rr)
     |none=>none
    |false=>none
   |none=>none
  |none=>none
 |_,_,_=>none
section
variable{P:Program}{T:Ar}{X:Cx}{nt:Nat}{v v':Val}{st st':St}{a:Act}{w w':World}{k k':Nat}
theorem Acp(h:Den T X nt v st a w):∀{sl:List (Nat×PA)}{es:List EV},NS st sl=some es->∃xs:List Value,All2 (DE T v) es xs/\(∀e∈es,e.ok st.next=true)/\sl.map (λp=>a.tmps[p.1]?)=xs.map some
 |[],es,he=>by simp only[NS]at he;cases he;exact⟨[],trivial,by simp,rfl⟩
 |(t,p)::sl,es,he=>by
  simp only[NS]at he;split at he
  ·rename_i e es' h1 h2;cases he;obtain⟨x,a1,a2,a3⟩:=h.env _ _ h1;obtain⟨xs,b1,b2,b3⟩:=Acp h h2;refine⟨x::xs,⟨a2,b1⟩,?_,by simp[a1,b3]⟩;intro e' he';rcases Ao.1 he' with rfl|he'
   ·exact a3
   ·exact b2 e' he'
  ·cases he
theorem Pc:∀{ps:List (Option A7)}{cs ds l:List SC}{xs:List Value},Ee ps cs ds=some l->All2 (DC T v) ds xs->All2 (DC T v) l (Gh ps xs)/\l.length=(CQ ps).length/\(∀c∈l,c∈ds)/\
 ∀{v':Val}{mc r:List SC},D_ ps cs mc=some r->All2 (DC T v') mc (Gh ps xs)->(∀c∈cs,∀x,DC T v c x->DC T v' c x)->All2 (DC T v') r xs
 |[],cs,ds,l,xs,h,hx=>by
  cases cs<;>cases ds<;>simp only[Ee]at h<;>cases h;cases xs
  ·refine⟨trivial,rfl,by simp,?_⟩;intro v' mc r hm _ _;cases mc<;>simp only[D_]at hm<;>cases hm;trivial
  ·exact hx.elim
 |none::ps,cs,ds,l,xs,h,hx=>by
  cases cs with
  |nil=>simp only[Ee]at h;cases h
  |cons c cs=>
   cases ds with
   |nil=>simp only[Ee]at h;cases h
   |cons d ds=>
    cases xs with
    |nil=>exact hx.elim
    |cons x xs=>
     simp only[Ee]at h;split at h
     ·rename_i heq;have heq:=PI heq;subst heq;obtain⟨a1,a3,a4,a5⟩:=Pc h hx.2;refine⟨a1,a3,λc hc=>by simp[a4 c hc],?_⟩;intro v' mc r hm hmc hk;simp only[D_,BG]at hm;obtain⟨r',hm,rfl⟩:=hm;exact⟨hk _ (by simp) _ hx.1,a5 hm hmc (λc hc=>hk c (by simp[hc]))⟩
     ·cases h
 |some p::ps,cs,ds,l,xs,h,hx=>by
  cases cs with
  |nil=>simp only[Ee]at h;cases h
  |cons c cs=>
   cases ds with
   |nil=>simp only[Ee]at h;cases h
   |cons d ds=>
    cases xs with
    |nil=>exact hx.elim
    |cons x xs=>
     simp only[Ee]at h;simp only[BG]at h;obtain⟨l',h,rfl⟩:=h;obtain⟨a1,a3,a4,a5⟩:=Pc h hx.2;refine⟨⟨hx.1,a1⟩,by simp[CQ,a3],?_,?_⟩
     ·intro c hc;rcases Ao.1 hc with rfl|hc
      ·simp
      ·simp[a4 c hc]
     ·intro v' mc r hm hmc hk;cases mc with
      |nil=>simp only[D_]at hm;cases hm
      |cons m mc=>
       simp only[D_,BG]at hm;obtain⟨r',hm,rfl⟩:=hm;exact⟨hmc.1,a5 hm hmc.2 (λc hc=>hk c (by simp[hc]))⟩
theorem NT:∀{sl:List (Nat×PA)}{cs:List SC}{l:List (Nat×EV)}{r:List SC}{xs ys:List Value}{css:List (List Value)},G6 sl cs=some (l,r)->PAVs (sl.map (·.2)) xs css->All2 (DC T v) cs (css.flatten++ys)->cs.all (SC.ok k)=true->
 sl.map (λp=>a.tmps[p.1]?)=xs.map some->All2 (DC T v) r ys/\(∀i e,Ck.get l i=some e->∃x,a.tmps[i]? =some x/\DE T v e x/\e.ok k=true)/\r.all (SC.ok k)=true
 |[],cs,l,r,xs,ys,css,h,hp,hc,ho,hs=>by
  simp only[G6]at h;cases h;cases xs<;>cases css<;>first|exact hp.elim|exact⟨by simpa using hc,λi e hi=>by simp[Ck.get_nil,Ck.get_cons]at hi,ho⟩
 |(t,p)::sl,cs,l,r,xs,ys,css,h,hp,hc,ho,hs=>by
  cases xs with
  |nil=>cases css<;>exact hp.elim
  |cons x xs=>
   cases css with
   |nil=>exact hp.elim
   |cons c css=>
    obtain⟨h1,h2⟩:=hp;simp only[CA,List.cons.injEq]at hs;simp only[E3,Dg]at hc;have fin:∀{ev:EV}{l':List (Nat×EV)},DE T v ev x->ev.ok k=true->(∀i e,Ck.get l' i=some e->∃x,a.tmps[i]? =some x/\DE T v e x/\e.ok k=true)->∀i e,Ck.get ((t,ev)::l') i=some e->∃x,a.tmps[i]? =some x/\DE T v e x/\e.ok k=true:=by
     intro ev l' hd ho' hl i e hi;simp only[Ck.get_nil,Ck.get_cons]at hi;split at hi
     ·rename_i hb;cases hi;rw[<-AH hb];exact⟨x,hs.1,hd,ho'⟩
     ·exact hl i e hi
    cases p with
    |one p=>
     simp only[KJ]at h1;subst h1;cases cs with
     |nil=>simp only[G6]at h;cases h
     |cons d cs=>
      simp only[G6,BG]at h;obtain⟨⟨l',r'⟩,h3,h4⟩:=h;cases h4;simp only[EJ,Aq]at ho;obtain⟨a1,a2,a3⟩:=NT h3 h2 hc.2 ho.2 hs.2;exact⟨a1,fin hc.1 ho.1 a2,a3⟩
    |agg q=>
     obtain⟨rfl,h4⟩:=h1;simp only[G6]at h;split at h
     ·simp only[BG]at h;obtain⟨⟨l',r'⟩,h3,h5⟩:=h;cases h5;have:=PM (xs:=c) (ys:=css.flatten++ys) hc;rw[h4]at this;simp only[Bg]at ho;obtain⟨a1,a2,a3⟩:=NT h3 h2 this.2 (by simp only[Bg];exactλc hc=>ho c (Fu hc)) hs.2;exact⟨a1,fin ⟨c,rfl,this.1⟩ (by show List.all _ _=true;simp only[Bg];exactλc hc=>ho c (_root_.Fd hc)) a2,a3⟩
     ·cases h
end
section
variable{P:Program}{T:Ar}{X:Cx}{nt:Nat}{v v':Val}{st st':St}{a:Act}{w w':World}{k k':Nat}
def X_(T:Ar)(X:Cx)(v v':Val)(st:St)(w:World)(q:Nat×Nat×List SC):Prop:=
 (∃t c,(q.1,t,c)∈st.mem)/\∃b cs,v.β q.1=some b/\Blk w b cs q.2.1/\All2 (DC T v') q.2.2 cs/\(∀c∈cs,c.oneCell'=true)/\(∀o,v.M b o=none)/\v.A b=none/\(X.B b\/X.w0.heap.size<=b)
theorem Aax(hp:Hp T X v st w){pm:List (Nat×List (Option A7))}:∀{l:List (Nat×Nat×List SC)}{mc:List SC},Nx pm st l=some mc->∃ys:List Value,All2 (DC T v) mc ys/\mc.all (SC.ok st.next)=true/\
 ∀{v':Val}{r:List SC}{mem:List (Nat×Nat×List SC)},Jv pm l r=some mem->All2 (DC T v') r ys->(∀q∈l,∀c∈q.2.2,∀x,DC T v c x->DC T v' c x)->∀q∈mem,X_ T X v v' st w q
 |[],mc,h=>by
  simp only[Nx]at h;cases h;refine⟨[],trivial,rfl,?_⟩;intro v' r mem hm hr _;cases r with
  |nil=>simp only[Jv]at hm;cases hm;simp
  |cons=>exact hr.elim
 |(g,t,cs)::l,mc,h=>by
  simp only[Nx]at h;split at h
  ·rename_i t' ds r1 hg hr1;split at h<;>cases h;rename_i x ht hx;have ht:=AH ht;subst ht;have hm:=Eh hg;obtain⟨⟨b,vs,e1,e2,e3,e4,e5,e6,e7⟩,e8⟩:=hp.mem _ hm;simp only at e1 e2 e3;simp only[C6,Aq,Bg]at e8;obtain⟨a1,a3,a4,a5⟩:=Pc hx e3;obtain⟨ys,b1,b3,b4⟩:=Aax hp hr1;refine⟨Gh (J2 pm g cs) vs++ys,a1.append b1,?_,?_⟩
   ·simp only[HN,Aq,Bg]at b3⊢;exact⟨λc hc=>e8.2 c (a4 c hc),b3⟩
   ·intro v' r mem hmh hr hk;simp only[Jv]at hmh;split at hmh
    ·rename_i xx yy h1 h2;cases hmh;have hlen:(Gh (J2 pm g cs) vs).length=(CQ (J2 pm g cs)).length:=by rw[<-a1.length,a3]
     have hs:=PM (xs:=Gh (J2 pm g cs) vs) (ys:=ys) hr;rw[hlen]at hs;intro q hq;rcases Ao.1 hq with rfl|hq
     ·exact⟨⟨t',ds,hm⟩,b,vs,e1,e2,a5 h1 hs.1 (λc hc x hd=>hk (g,t',cs) (by simp) c hc x hd),e4,e5,e6,e7⟩
     ·exact b4 h2 hs.2 (λq hq c hc x hd=>hk q (by simp[hq]) c hc x hd) q hq
    ·cases hmh
  ·cases h
theorem Wk(h:Den T X nt v st a w):∀{l:List Nat}{cs:List SC},NF st l=some cs->Cells T v cs/\cs.all (SC.ok st.next)=true
 |[],cs,he=>by simp only[NF]at he;cases he;exact⟨by simp[Cells],rfl⟩
 |t::l,cs,he=>by
  simp only[NF]at he;split at he
  ·rename_i c cs' h1 h2;cases he;obtain⟨x,_,a2,a3⟩:=h.env _ _ h1;obtain⟨b1,b2⟩:=Wk h h2;refine⟨?_,?_⟩
   ·intro d hd;rcases Ao.1 hd with rfl|hd
    ·exact⟨x,a2⟩
    ·exact b1 d hd
   ·simp only[EJ,Aq];exact⟨a3,b2⟩
  ·cases he
theorem Wl(h:Den T X nt v st a w):∀{l:List (Nat×Nat)}{cs:List SC},NG st l=some cs->Cells T v cs/\cs.all (SC.ok st.next)=true
 |[],cs,he=>by simp only[NG]at he;cases he;exact⟨by simp[Cells],rfl⟩
 |(t,o)::l,cs,he=>by
  simp only[NG]at he;split at he
  ·rename_i g cs' h1 h2;split at he
   ·rename_i t' q hg;split at he<;>cases he;rename_i c hc;obtain⟨⟨b,vs,_,_,e3,_⟩,e8⟩:=h.hp.mem _ (Eh hg);simp only[C6,Aq,Bg]at e8;obtain⟨y,_,hy⟩:=e3.get hc;obtain⟨b1,b2⟩:=Wl h h2;refine⟨?_,?_⟩
    ·intro d hd;rcases Ao.1 hd with rfl|hd
     ·exact⟨y,hy⟩
     ·exact b1 d hd
    ·simp only[EJ,Aq];exact⟨e8.2 c (BA hc),b2⟩
   ·cases he
  ·cases he
def Ot(T:Ar)(X:Cx)(h:BL):Prop:=h.gh.all (SC.ok X.k0)=true/\Cells T X.v0 h.gh
theorem As3(h:Den T X nt v st a w){hd:BL}(hg:Ot T X hd){cs:List SC}(he:NE st hd=some cs):Cells T v cs:=by
 unfold NE at he;split at he<;>cases he;rename_i h1 h2;intro c hc;rcases B3.1 hc with hc|hc
 ·rcases B3.1 hc with hc|hc
  ·exact(Wk h h1).1 c hc
  ·exact(Wl h h2).1 c hc
 ·exact Cells.ext h.hp.ext hg.1 hg.2 c hc
theorem ZC{α:Type}:∀{l m:List (Nat×α)}{i:Nat}{x:α},Ck.get (l++m) i=some x->Ck.get l i=some x\/(i,x)∈m
 |[],m,i,x,h=>.inr (Eh h)
 |(j,y)::l,m,i,x,h=>by
  simp only[CL,Ck.get_nil,Ck.get_cons]at h⊢;split at h
  ·exact .inl h
  ·exact ZC h
theorem VG{pm:List (Nat×List (Option A7))}:∀{l:List (Nat×Nat×List SC)}{r:List SC}{mem:List (Nat×Nat×List SC)},Jv pm l r=some mem->∀q∈mem,∃c,(q.1,q.2.1,c)∈l/\(r.all (SC.ok k)=true->c.all (SC.ok k)=true->q.2.2.all (SC.ok k)=true)
 |[],r,mem,h,q,hq=>by
  cases r<;>simp only[Jv]at h<;>cases h;simp at hq
 |(g,t,cs)::l,r,mem,h,q,hq=>by
  simp only[Jv]at h;split at h
  ·rename_i x y h1 h2;cases h;rcases Ao.1 hq with rfl|hq
   ·refine⟨cs,by simp,λhr hc=>?_⟩;have:∀{ps:List (Option A7)}{cs mc l:List SC},D_ ps cs mc=some l->∀c∈l,c∈cs\/c∈mc:=by
     intro ps;induction ps with
     |nil=>intro cs mc l h;cases cs<;>cases mc<;>simp only[D_]at h<;>cases h;simp
     |cons p ps ih=>
      intro cs mc l h c hc;cases p with
      |none=>
       cases cs with
       |nil=>simp only[D_]at h;cases h
       |cons d cs=>
        simp only[D_,BG]at h;obtain⟨l',h,rfl⟩:=h;rcases Ao.1 hc with rfl|hc
        ·simp
        ·rcases ih h c hc with h'|h'
         ·simp[h']
         ·exact .inr h'
      |some p=>
       cases cs with
       |nil=>simp only[D_]at h;cases h
       |cons d cs=>
        cases mc with
        |nil=>simp only[D_]at h;cases h
        |cons m mc=>
         simp only[D_,BG]at h;obtain⟨l',h,rfl⟩:=h;rcases Ao.1 hc with rfl|hc
         ·simp
         ·rcases ih h c hc with h'|h'
          ·simp[h']
          ·simp[h']
    simp only[Bg]at hr hc⊢;intro c hcm;rcases this h1 c hcm with h'|h'
    ·exact hc c h'
    ·exact hr c (_root_.Fd h')
   ·obtain⟨c,h3,h4⟩:=VG h2 q hq;refine⟨c,by simp[h3],λhr=>h4 ?_⟩;simp only[Bg]at hr⊢;exactλc hc=>hr c (Fu hc)
  ·cases h
theorem Xw:∀{M:AT}{A:AV}{ps:List A7}{xs:List Value}{ss:List Sm}{os:List (Option Nat)},PVs T w M A ps xs ss os->ps.length=xs.length/\ss.length=xs.length
 |_,_,[],[],[],[],_=>⟨rfl,rfl⟩
 |_,_,_::_,_::_,_::_,_::_,h=>by have:=Xw h.2;simp[this]
 |_,_,[],[],[],_::_,h=>h.elim
 |_,_,[],[],_::_,_,h=>h.elim
 |_,_,[],_::_,_,_,h=>h.elim
 |_,_,_::_,[],_,_,h=>h.elim
 |_,_,_::_,_::_,[],_,h=>h.elim
 |_,_,_::_,_::_,_::_,[],h=>h.elim
theorem ZJ{v0:Val}{w0:World}{st0:St}(h0:Hp T X v0 st0 w0)(hd:Den T X nt v st a w)(hx:Ext st0.next v0 v){base:List (Nat×EV)}(hbase:∀p∈base,p.2.ok st0.next=true){pm:List (Nat×List (Option A7))}{h:BL}{l:List St}{tvec rr vec:List SC}{st1:St}(hgh:Ot T X h)
 (hk:Qq T st0 base pm h=some (l,tvec,rr)) (hm:Qo T st0 base pm h rr st=some (st1,vec)):
 ∃tm∈l,∃v',Ext st0.next v0 v'/\Den T X nt v' tm a w/\st0.next<=tm.next/\tvec.map (sem T v')=vec.map (sem T v)/\tvec.all (SC.ok tm.next)=true/\Cells T v' tvec/\
  ∃v1,Grew T X v st w v1 st1/\vec.all (SC.ok st.next)=true/\Cells T v vec:=by
 unfold Qo at hm;split at hm;rotate_left
 ·cases hm
 rename_i es mc ro hes hmc hro;split at hm;rotate_left
 ·cases hm
 rename_i ac hac;split at hm;rotate_left
 ·cases hm
 rename_i gs hml;split at hm;rotate_left
 ·cases hm
 rename_i hb;split at hm;rotate_left
 ·cases hm
 rename_i st1' hpt;cases hm;simp only[Aq]at hb;obtain⟨⟨hnd,hror⟩,hbs⟩:=hb;have hror:=MM hror;subst hror;obtain⟨xs,a1,a2,a3⟩:=Acp hd hes;obtain⟨css,b1,b2,b3⟩:=KS (v:=v) (vs:=xs) hac a1 a2;obtain⟨ys,c1,c3,c4⟩:=Aax hd.hp hmc;have hall:All2 (DC T v) (ac++mc) (css.flatten++ys):=b2.append c1;have hallo:(ac++mc).all (SC.ok st.next)=true:=by simp only[HN,Aq];exact⟨b3,c3⟩
 obtain⟨os,d1,d2,d3,d4⟩:=Nu hd.hp hml hall;have hrc:=As3 hd hgh hro;unfold Qq at hk;obtain⟨v',H⟩:=Nf (k:=st0.next) d1;have hnx:=Lm (Fm h pm st0) st0.next;have hev:=Ng (T:=T) (v:=v') (Fm h pm st0) st0.next;generalize hq:BD (Fm h pm st0) st0.next=q at hk H hnx hev;obtain⟨tc,fs,osy,k1⟩:=q;simp only at hk H hnx hev;split at hk;rotate_left
 ·cases hk
 rename_i sl r hsl;split at hk;rotate_left
 ·cases hk
 rename_i mem hmem;split at hk;rotate_left
 ·cases hk
 rename_i rr' hrr;split at hk;rotate_left
 ·cases hk
 rename_i hrro;split at hk;rotate_left
 ·cases hk
 rename_i es2 st2 htk;simp only[BG,Prod.mk.injEq]at hk;obtain⟨l',hl,rfl,rfl,rfl⟩:=hk
 --the valuation
 have xv:Ext st0.next v0 v':=hx.trans H.ext (Ay _);have hsn:=NT (a:=a) (T:=T) (v:=v') (k:=k1) (ys:=ys) hsl b1 H.cells H.ok a3;obtain⟨s1,s2,s3⟩:=hsn;have hkk:st0.next<=st.next\/True:=.inr trivial
 --memory
 have hMem:∀q∈mem,X_ T X v v' st w q:=c4 hmem s1 (λq hq c hc x hdc=>by
  have:=(h0.mem q hq).2;simp only[C6,Aq,Bg]at this;exact DC.ext H.ext (this.2 c hc) hdc)
 have idlt:∀q∈mem,q.1<st0.next:=λq hq=>by
  obtain⟨c,h1,_⟩:=VG (k:=k1) hmem q hq;have:=(h0.mem _ h1).2;simp only[C6,Aq,A_]at this;exact this.1
 have βeq:∀q∈mem,v'.β q.1=v.β q.1:=λq hq=>H.ext.β _ (idlt q hq);have hpt0:=hd.hp;have hT:Hp T X v' {st0 with env:=sl++base,mem:=mem,own:=osy,facts:=fs++st0.facts,maxs:=[]++st0.maxs,next:=k1} w:={
  fra:=⟨hpt0.fra.os,hpt0.fra.tape,hpt0.fra.output,hpt0.fra.size,hpt0.fra.blk,by rw[H.hM];exact hpt0.fra.M,by rw[H.hA];exact hpt0.fra.A⟩
  ext:=h0.ext.trans xv h0.kk
  kk:=AX h0.kk hnx
  hM:=by rw[H.hM,H.hA];exact hpt0.hM
  hA:=by rw[H.hA];exact hpt0.hA
  mem:=λq hq=>by
   obtain⟨_,b,cs,e1,e2,e3,e4,e5,e6,e7⟩:=hMem q hq;obtain⟨c,h1,h2⟩:=VG (k:=k1) hmem q hq;have hc:=(h0.mem _ h1).2;simp only[C6,Aq,A_]at hc;refine⟨⟨b,cs,by rw[βeq q hq];exact e1,e2,e3,e4,by rw[H.hM];exact e5,by rw[H.hA];exact e6,e7⟩,?_⟩;simp only[C6,Aq,A_];exact⟨BB hc.1 hnx,h2 s3 (SCs.ok_mono hnx hc.2)⟩
  own:=λp hpm=>by
   refine⟨?_,(H.oko p hpm).1⟩;have:∀{os:List (Nat×Nat×Nat×LE)}{bs:List (Option Nat)},OwnSyms T w v' os bs->∀p∈os,∃b∈bs,v'.β p.1=b/\∀b',b=some b'->∃cs,Blk w b' cs p.2.1/\cs.length=(v'.κ p.1).1*(T p.2.2.1).cells.length/\p.2.2.2.ev v'.ρ<=((v'.κ p.1).1:Int)/\(v'.κ p.1).1<=maxLen/\
    (∀o y,v'.M b' o=some y->(o:Int)<p.2.2.2.ev v'.ρ*((T p.2.2.1).cells.length:Int))/\v'.A b'=none:=by
    intro os;induction os with
    |nil=>intro bs _ p hp;simp at hp
    |cons q os ih=>
     intro bs h p hp;cases bs with
     |nil=>exact h.elim
     |cons b bs=>
      rcases Ao.1 hp with rfl|hp
      ·exact⟨b,by simp,h.1⟩
      ·obtain⟨b',h1,h2⟩:=ih h.2 p hp;exact⟨b',by simp[h1],h2⟩
   obtain⟨b,hbm,h1,h2⟩:=this H.own p hpm;cases hbb:b with
   |none=>subst hbb;exact .inl h1
   |some b'=>
    subst hbb;obtain⟨cs,e1,e2,e3,e4,e5,e6⟩:=h2 b' rfl;refine .inr ⟨b',cs,h1,e1,e2,e3,e4,e5,e6,?_⟩;obtain⟨g,f1,f2,q,f3⟩:=d2 b' hbm;obtain⟨h0'|⟨b2,cs2,g1,_,_,_,_,_,_,g8⟩,_⟩:=hpt0.own _ f3
    ·simp only at h0';rw[f2]at h0';cases h0'
    ·simp only at g1;rw[f2]at g1;cases g1;exact g8
  rows:=λp hpm=>⟨(h0.rows p hpm).1.keep xv (h0.rows p hpm).2,VV hnx (h0.rows p hpm).2⟩
  pres:=λp hpm=>⟨(h0.pres p hpm).1.keep xv (h0.pres p hpm).2,L2 hnx (h0.pres p hpm).2⟩
  rix:=λp hpm=>⟨(h0.rix p hpm).1.keep xv (h0.rix p hpm).2,L2 hnx (h0.rix p hpm).2⟩
  maxs:=λp hpm=>⟨(h0.maxs p hpm).1.keep xv (h0.maxs p hpm).2,VU hnx (h0.maxs p hpm).2⟩
  facts:=λf hf=>by
   rcases B3.1 hf with hf|hf
   ·exact H.facts f hf
   ·exact Holds.ext xv h0.okf h0.facts f hf
  okf:=λf hf=>by
   rcases B3.1 hf with hf|hf
   ·exact H.okf f hf
   ·exact LE.ok_mono hnx (h0.okf f hf)
  memU:=λp hpm q hqm b e1 e2=>by
   rw[βeq p hpm]at e1;rw[βeq q hqm]at e2;obtain⟨⟨t,c,h1⟩,_⟩:=hMem p hpm;obtain⟨⟨t',c',h2⟩,_⟩:=hMem q hqm;exact hpt0.memU (p.1,t,c) h1 (q.1,t',c') h2 b e1 e2
  ownU:=by
   have:∀{os:List (Nat×Nat×Nat×LE)}{bs:List (Option Nat)},OwnSyms T w v' os bs->D5 bs->∀p∈os,∀q∈os,∀b,v'.β p.1=some b->v'.β q.1=some b->p.1=q.1:=by
    intro os;induction os with
    |nil=>intro bs _ _ p hp;simp at hp
    |cons r os ih=>
     intro bs h hs p hp q hq b h1 h2;cases bs with
     |nil=>exact h.elim
     |cons c bs=>
      have hs':=Mi.1 hs;have fromTail:∀q∈os,v'.β q.1=some b->some b∈bs:=by
       intro q hq h2;have:∀{os:List (Nat×Nat×Nat×LE)}{bs:List (Option Nat)},OwnSyms T w v' os bs->∀p∈os,v'.β p.1=some b->some b∈bs:=by
        intro os;induction os with
        |nil=>intro bs _ p hp;simp at hp
        |cons q os ih=>
         intro bs h p hp hb;cases bs with
         |nil=>exact h.elim
         |cons c bs=>
          rcases Ao.1 hp with rfl|hp
          ·have:=h.1.1;rw[hb]at this;simp[<-this]
          ·simp[ih h.2 p hp hb]
       exact this h.2 q hq h2
      rcases Ao.1 hp with hp1|hp1<;>rcases Ao.1 hq with hq1|hq1
      ·rw[hp1,hq1]
      ·have hc:=h.1.1;rw[hp1]at h1;rw[h1]at hc;exact absurd V (hs'.1 _ (fromTail q hq1 h2) b hc.symm)
      ·have hc:=h.1.1;rw[hq1]at h2;rw[h2]at hc;exact absurd V (hs'.1 _ (fromTail p hp1 h1) b hc.symm)
      ·exact ih h.2 hs'.2 p hp1 q hq1 b h1 h2
   exact this H.own (d3 hnd)
  moU:=λp hpm q hqm b e1 e2=>by
   rw[βeq p hpm]at e1;obtain⟨⟨t,c,h1⟩,_⟩:=hMem p hpm;have:∀{os:List (Nat×Nat×Nat×LE)}{bs:List (Option Nat)},OwnSyms T w v' os bs->∀p∈os,v'.β p.1=some b->some b∈bs:=by
    intro os;induction os with
    |nil=>intro bs _ p hp;simp at hp
    |cons q os ih=>
     intro bs h p hp hb;cases bs with
     |nil=>exact h.elim
     |cons c bs=>
      rcases Ao.1 hp with rfl|hp
      ·have:=h.1.1;rw[hb]at this;simp[<-this]
      ·simp[ih h.2 p hp hb]
   obtain⟨g,f1,f2,q',f3⟩:=d2 b (this H.own q hqm e2);exact hpt0.moU (p.1,t,c) h1 _ f3 b e1 f2}
 --terms
 have hvo:(Bd (Fm h pm st0) tc++rr').all (SC.ok k1)=true:=by
  simp only[HN,Aq];exact⟨K5 H.ok,SCs.ok_mono hnx hrro⟩
 have hvc:Cells T v' (Bd (Fm h pm st0) tc++rr'):=by
  intro c hc;rcases B3.1 hc with hc|hc
  ·exact LR (Cells.of H.cells) c hc
  ·exact Cells.ext H.ext hrro hrc c hc
 have hsem:(Bd (Fm h pm st0) tc++rr').map (sem T v')=(Bd (Fm h pm st0) (ac++mc)++rr').map (sem T v):=by
  rw[IE,IE,hev,H.sem,J4 H.ext hrro]
 have hrok:rr'.all (SC.ok st.next)=true:=by
  unfold NE at hro;split at hro<;>cases hro;rename_i h1 h2;simp only[HN,Aq];exact⟨⟨(Wk hd h1).2,(Wl hd h2).2⟩,SCs.ok_mono hd.hp.kk hgh.1⟩
 have hvo':(Bd (Fm h pm st0) (ac++mc)++rr').all (SC.ok st.next)=true:=by
  simp only[HN,Aq];exact⟨K5 hallo,hrok⟩
 have hvc':Cells T v (Bd (Fm h pm st0) (ac++mc)++rr'):=by
  intro c hc;rcases B3.1 hc with hc|hc
  ·exact LR (Cells.of hall) c hc
  ·exact hrc c hc
 obtain⟨v1,g1,hfacts⟩:=Q3 hd.hp hvo' hvc' hpt;obtain⟨v2,g2,h1,h2⟩:=QH hT hvo hvc htk (λt ht=>by rw[hsem];exact hfacts t ht);obtain⟨tm,h3,h4,h5,h6,_⟩:=Wd g2.hp hl h1;have hnk:k1<=st2.next:=g2.next;refine⟨tm,h3,v2,xv.trans g2.ext (by show st0.next<=k1;exact hnx),⟨hd.size,hd.defers,?_,h4⟩,by rw[h5];exact AX hnx hnk,?_,?_,?_,v1,g1,hvo',hvc'⟩
 ·intro i e hi;rw[h6,g2.env]at hi;rw[h5];rcases ZC hi with hi|hi
  ·obtain⟨x,k2,k3,k4⟩:=s2 i e hi;exact⟨x,k2,DE.ext g2.ext k4 k3,EV.ok_mono hnk k4⟩
  ·simp only[Bg]at hbs;have hb':=hbs (i,e) hi;split at hb'
   ·rename_i e' he';have:=Zd hb';subst this;obtain⟨x,k2,k3,_⟩:=hd.env _ _ he';have k4:=hbase (i,e') hi;exact⟨x,k2,DE.ext (H.ext.trans g2.ext hnx) k4 k3,EV.ok_mono (AX hnx hnk) k4⟩
   ·cases hb'
 ·rw[J4 g2.ext hvo];exact hsem
 ·rw[h5];exact SCs.ok_mono hnk hvo
 ·exact Cells.ext g2.ext hvo hvc
end
inductive XK where
 |nrm
 |ex (id:Nat)
 |rt
def XK.is:XK->Exit->Prop
 | .nrm,.normal=>True
 | .ex i,.exit j=>i=j
 | .rt,.ret=>True
 |_,_=>False
def MU:Code->Nat
 | .region id _ _=>id
 | .seq a _=>MU a
 | .block _ c=>MU c
 | .loop c=>MU c
 |_=>1000000
def Ih:Code->List Nat
 | .region _ ops _=>ops.toList.filterMap (·.dst)
 | .seq a b=>Ih a++Ih b
 | .cond _ a b=>Ih a++Ih b
 | .block _ c=>Ih c
 | .loop c=>Ih c
 |_=>[]
structure KN where
 h:BL
 pm:List (Nat×List (Option A7))
 l:List St
 tvec:List SC
 rr:List SC
def L8(T:Ar)(st0:St)(base:List (Nat×EV)):List BL->Option (List KN)
 |[]=>some []
 |h::hs=>match Adn st0 h.vars with
  |some pm=>match Qq T st0 base pm h,L8 T st0 base hs with
   |some (l,tvec,rr),some rs=>some (⟨h,pm,l,tvec,rr⟩::rs)
   |_,_=>none
  |none=>none
def K3(T:Ar)(st0:St)(base:List (Nat×EV))(st:St)(lim:Option LE):List KN->Bool
 |[]=>false
 |r::rs=>(match Qo T st0 base r.pm r.h r.rr st with
  |some (s1,vec)=>match lim with
   |none=>true
   |some m0=>match r.h.meas.ev vec s1 with
    |some (m,s2)=>BF s2.facts CD (.sub (m0.addk (-1)) m)&&BF s2.facts CD m
    |none=>false
  |none=>false)||K3 T st0 base st lim rs
def Kr:XK->Bool
 | .nrm=>false
 |_=>true
def Abz(T:Ar)(st0:St)(base:List (Nat×EV))(rs:List KN)(run:St->Option (List (XK×St)))(r:KN)(tm:St):Option (List (XK×St)):=
 match r.h.meas.ev r.tvec tm with
 |some (m0,tm')=>match BF tm'.facts CD m0,run tm' with
  |true,some outs=>match outs.all λp=>match p.1 with
   | .nrm=>(match GY (rs.flatMap λr=>r.h.slots.map λq=>Operand.tmp q.1) p.2 with
    |some l=>l.all λs=>K3 T st0 base s (some m0) rs
    |none=>false)
   |_=>true with
   |true=>some (outs.filter λp=>Kr p.1)
   |false=>none
  |_,_=>none
 |none=>none
def VA(T:Ar)(heads:List BL)(asg:List Nat)(run:St->Option (List (XK×St)))(st:St):Option (List (XK×St)):=
 let base:=Kk (asg++(heads.flatMap λh=>h.slots.map (·.1))) st.env [];match L8 T st base heads with
 |some rs=>match K3 T st base st none rs,base.all λp=>p.2.ok st.next with
  |true,true=>D8 (λr=>D8 (Abz T st base rs run r) r.l) rs
  |_,_=>none
 |none=>none
def Aag(T:Ar)(heads:List BL)(asg:List Nat)(run:St->Option (List (XK×St)))(st:St)(l:List (XK×St)):Option (List (XK×St)):=
 let base:=Kk (asg++(heads.flatMap λh=>h.slots.map (·.1))) st.env [];match L8 T st base heads with
 |some rs=>match l.all λp=>(match p.1 with
  | .nrm=>(match GY (rs.flatMap λr=>r.h.slots.map λq=>Operand.tmp q.1) p.2 with
   |some ls=>ls.all λs=>K3 T st base s none rs
   |none=>false)
  |_=>true),base.all λp=>p.2.ok st.next with
  |true,true=>match D8 (λr=>D8 run r.l) rs with
   |some q=>some (q++l.filter λp=>Kr p.1)
   |none=>none
  |_,_=>none
 |none=>none
def DK(G:C4)(loops:Nat->List BL):Code->St->Option (List (XK×St))
 | .skip,st=>some [(.nrm,st)]
 | .region _ ops d,st=>match d with
  |false=>(NH G ops ops.toList st).map λl=>l.map λs=>(.nrm,s)
  |true=>(Yd G ops st).map λl=>l.map λs=>(.nrm,s)
 | .seq a b,st=>match DK G loops a st with
  |some l=>match loops (1000000+MU b)with
   |h::hs=>Aag G.T (h::hs) (Ih a) (DK G loops b) st l
   |[]=>D8 (λp=>match p.1 with
    | .nrm=>DK G loops b p.2
    |k=>some [(k,p.2)]) l
  |none=>none
 | .cond c x y,st=>match BT st c with
  |some cc=>match KV st cc with
   |some (ts,fs)=>match D8 (DK G loops x) ts,D8 (DK G loops y) fs with
    |some p,some q=>some (p++q)
    |_,_=>none
   |none=>none
  |none=>none
 | .block id c,st=>(DK G loops c st).map λl=>l.map λp=>match p.1 with
  | .ex j=>match Nat.beq j id with
   |true=>(.nrm,p.2)
   |false=>p
  |_=>p
 | .loop c,st=>VA G.T (loops (MU c)) (Ih c) (DK G loops c) st
 | .exit id,st=>some [(.ex id,st)]
 | .ret,st=>some [(.rt,st)]
 |_,_=>none
def Ends(T:Ar)(X:Cx)(nt:Nat)(v:Val)(st:St)(outs:List (XK×St))(e:Exit)(a:Act)(w:World):Prop:=
 ∃p∈outs,p.1.is e/\∃v',Ext st.next v v'/\st.next<=p.2.next/\Den T X nt v' p.2 a w
variable{Q:Exit->Act->World->Prop}
theorem Avm{P:Program}{ι:Type}{c:Code}(I:ι->Act->World->Prop)(μ:ι->Nat)(i₀:ι){a:Act}{w:World}(h₀:I i₀ a w)
 (round:∀i a w,I i a w->c.wp P (Exit.then (λa' w'=>∃j,I j a' w'/\μ j<μ i) Q) a w):(Code.loop c).wp P Q a w:=by
 intro b k cs;have key:∀(N:Nat) (i:ι) (a:Act) (w:World),μ i=N->I i a w->
  ∃e a' w',Q e a' w'/\Arrives P (lone (b.at a (.code c:: .inLoop c::k)) cs w) b k cs e a' w':=by
  intro N;induction N using Nat.strongRecOn with
  |_ N ih=>
   intro i a w hN hI;obtain⟨e,a₁,w₁,hq,harr⟩:=round i a w hI b (.inLoop c::k) cs;cases e with
   |normal=>
    obtain⟨j,hI',hlt⟩:=hq;obtain⟨e₂,a₂,w₂,hq₂,harr₂⟩:=ih (μ j) (hN▸hlt) j a₁ w₁ rfl hI';exact⟨e₂,a₂,w₂,hq₂,.of_steps (Steps.trans harr (.one step_inLoop)) harr₂⟩
   |exit id=>exact⟨_,a₁,w₁,hq,.pass (x:=.inLoop c) V (λ_ _=>.inl (by simp)) harr⟩
   |goto l=>exact⟨_,a₁,w₁,hq,.pass (x:=.inLoop c) V (λ_ _=>.inl (by simp)) harr⟩
   |ret=>exact⟨_,a₁,w₁,hq,.pass (x:=.inLoop c) V (λ_ _=>.inl (by simp)) harr⟩
   |panic ch=>exact⟨_,a₁,w₁,hq,.pass (x:=.inLoop c) V (λ_ _=>.inl (by simp)) harr⟩
   |outgrown=>exact⟨_,a₁,w₁,hq,.pass (x:=.inLoop c) V (λ_ _=>.inl (by simp)) harr⟩
 obtain⟨e,a',w',hq,harr⟩:=key _ i₀ a w rfl h₀;exact⟨e,a',w',hq,.of_steps (.one step_loop) harr⟩
section
variable{P:Program}{G:C4}{X:Cx}{T:Ar}{nt:Nat}{v v':Val}{st st':St}{a:Act}{w w':World}{k k':Nat}
theorem NA{base:List (Nat×EV)}:∀{hs:List BL}{rs:List KN},L8 T st base hs=some rs->∀r∈rs,r.h∈hs/\Qq T st base r.pm r.h=some (r.l,r.tvec,r.rr)
 |[],rs,h,r,hr=>by simp only[L8]at h;cases h;simp at hr
 |x::hs,rs,h,r,hr=>by
  simp only[L8]at h;split at h
  ·split at h
   ·rename_i h1 h2;cases h;rcases Ao.1 hr with rfl|hr
    ·exact⟨by simp,h1⟩
    ·obtain⟨k1,k2⟩:=NA h2 r hr;exact⟨by simp[k1],k2⟩
   ·cases h
  ·cases h
theorem WJ{base:List (Nat×EV)}{st0:St}{lim:Option LE}:∀{rs:List KN},K3 T st0 base st lim rs=true->∃r∈rs,∃s1 vec,Qo T st0 base r.pm r.h r.rr st=some (s1,vec)/\∀m0,lim=some m0->∃m s2,r.h.meas.ev vec s1=some (m,s2)/\(BF s2.facts CD (.sub (m0.addk (-1)) m)&&BF s2.facts CD m)=true
 |r::rs,h=>by
  simp only[K3,HM]at h;rcases h with h|h
  ·split at h
   ·rename_i s1 vec hm;refine⟨r,by simp,s1,vec,hm,?_⟩;intro m0 hl;subst hl;simp only at h;split at h
    ·rename_i m s2 he;exact⟨m,s2,he,h⟩
    ·cases h
   ·cases h
  ·obtain⟨r',h1,h2⟩:=WJ h;exact⟨r',by simp[h1],h2⟩
theorem Arn{c:Code}{heads:List BL}(hgh:∀h∈heads,Ot T X h){asg:List Nat}{run:St->Option (List (XK×St))}(hrun:∀{v:Val}{st:St}{a:Act}{w:World}{outs:List (XK×St)},Den T X nt v st a w->run st=some outs->c.wp P (Ends T X nt v st outs) a w){outs:List (XK×St)}
 (hd:Den T X nt v st a w) (h:VA T heads asg run st=some outs):(Code.loop c).wp P (Ends T X nt v st outs) a w:=by
 unfold VA at h;simp only at h;generalize Kk (asg++(heads.flatMap λh=>h.slots.map (·.1))) st.env []=base at h;split at h;rotate_left
 ·cases h
 rename_i rs hrs;split at h;rotate_left
 ·cases h
 rename_i hen hbo;simp only[Bg]at hbo
 --at a head
 let I:Nat->Act->World->Prop:=λn a w=>∃r∈rs,∃tm∈r.l,∃v1,Ext st.next v v1/\st.next<=tm.next/\Den T X nt v1 tm a w/\r.tvec.all (SC.ok tm.next)=true/\Cells T v1 r.tvec/\(r.h.meas.den (r.tvec.map (sem T v1))).toNat=n;have enter:∀{v2:Val}{s:St}{a:Act}{w:World}{lim:Option LE},Den T X nt v2 s a w->Ext st.next v v2->K3 T st base s lim rs=true->(∀m0,lim=some m0->m0.ok s.next=true)->∃n,I n a w/\∀m0,lim=some m0->n<(m0.ev v2.ρ).toNat:=by
  intro v2 s a w lim hds hx ht hmo;obtain⟨r,hr,s1,vec,hm,hlim⟩:=WJ ht;obtain⟨tm,h1,v3,h2,h3,h4,h5,h6,h7,v4,g,h8,h9⟩:=ZJ hd.hp hds hx hbo (hgh _ (NA hrs r hr).1) (NA hrs r hr).2 hm;refine⟨_,⟨r,hr,tm,h1,v3,h2,h4,h3,h6,h7,rfl⟩,?_⟩;intro m0 hl;obtain⟨m,s2,he,hp⟩:=hlim m0 hl;simp only[Aq]at hp;obtain⟨v5,g2,k1,k2⟩:=Hj r.h.meas g.hp (SCs.ok_mono g.next h8) (Cells.ext g.ext h8 h9) he;have k3:=BU g2.hp.facts _ _ hp.1;have k6:=BU g2.hp.facts _ _ hp.2;simp only[LE.sub_ev,LE.addk_ev]at k3;rw[k2,J4 g.ext h8]at k6;rw[k2,J4 g.ext h8,Bj (g.ext.trans g2.ext g.next).ρ (hmo m0 hl)]at k3;rw[h5];omega
 obtain⟨n0,hI0,_⟩:=enter hd (Ext.refl _ _) hen (by simp);refine Avm I id n0 hI0 ?_;rintro n a w ⟨r,hr,tm,htm,v1,x1,n1,hd1,ho1,hc1,hmn⟩;obtain⟨l1,k1,k2⟩:=Ef h r hr;obtain⟨l2,k3,k4⟩:=Ef k1 tm htm;unfold Abz at k3;split at k3;rotate_left
 ·cases k3
 rename_i m0 tm' hme;split at k3;rotate_left
 ·cases k3
 rename_i outs' hpm hro;split at k3<;>cases k3;rename_i hall;simp only[Bg]at hall;obtain⟨v2,g,e1,e2⟩:=Hj r.h.meas hd1.hp ho1 hc1 hme;have hd2:=g.den hd1;have hpos:=BU hd2.hp.facts _ _ hpm;refine wp_mono (hrun hd2 hro) ?_;rintro e a' w' ⟨p,hp,hk,v3,x3,n3,hd3⟩;obtain⟨kk,s⟩:=p;have xall:Ext st.next v v3:=(x1.trans g.ext n1).trans x3 (AX n1 g.next);have other:Kr kk=true->Ends T X nt v st outs e a' w':=λhb=>
  ⟨(kk,s),k2 _ (k4 _ (IF.2 ⟨hp,hb⟩)),hk,v3,xall,AX (AX n1 g.next) n3,hd3⟩
 cases kk with
 |nrm=>
  cases e<;>simp only[XK.is]at hk;have ht:=hall (.nrm,s) hp;simp only at ht;split at ht;rotate_left
  ·cases ht
  rename_i ls hls;simp only[Bg]at ht;obtain⟨s',hs1,hs2,hs3,_,_⟩:=J6 hd3 hls;obtain⟨n',hI,hlt⟩:=enter hs2 xall (ht s' hs1) (by intro m hm;cases hm;rw[hs3];exact LE.ok_mono n3 e1);refine⟨n',hI,?_⟩;have hmv:m0.ev v3.ρ=m0.ev v2.ρ:=Bj x3.ρ e1;have:=hlt m0 rfl;rw[hmv,e2]at this;show n'<n;rw[<-hmn];exact this
 |ex i=>
  cases e<;>simp only[XK.is]at hk;exact other V
 |rt=>
  cases e<;>simp only[XK.is]at hk;exact other V
end
section
variable{P:Program}{G:C4}{X:Cx}{v v':Val}{st st':St}{a:Act}{w w':World}{k k':Nat}
theorem Ad0{outs:List (XK×St)}:∀c (a:Act) (w:World) d y,Ends T X nt v st outs (.panic c) (a.put d y) w->Ends T X nt v st outs (.panic c) a w:=by
 rintro c a w d y ⟨p,_,hk,_⟩;obtain⟨kk,s⟩:=p;cases kk<;>simp[XK.is]at hk
theorem Ik(hty:CB P G.ty)(hmix:P.follows .mixedOrders=true){M0:Int}(hC:IB P G M0)(hm0:G.m0.ok X.k0=true)(hM0:G.m0.ev X.v0.ρ=M0){loops:Nat->List BL}(hgh:∀r,∀h∈loops r,Ot G.T X h):∀(c:Code) {v:Val}{st:St}{a:Act}{w:World}{outs:List (XK×St)},Den G.T X G.nt v st a w->DK G loops c st=some outs->
 c.wp P (Ends G.T X G.nt v st outs) a w
 | .skip,v,st,a,w,outs,h,hr=>by
  simp only[DK]at hr;cases hr;exact wp_skip ⟨(.nrm,st),by simp,trivial,v,Ext.refl _ _,Ay _,h⟩
 | .region id ops d,v,st,a,w,outs,h,hr=>by
  simp only[DK]at hr;cases d with
  |false=>
   simp only[BG]at hr;obtain⟨l,hl,rfl⟩:=hr;refine wp_region_list (Ab1 hty hC hm0 hM0 h hl ?_);rintro a' w' ⟨s,h1,v',h2,h3,h4⟩;exact⟨(.nrm,s),BY.2 ⟨s,h1,rfl⟩,trivial,v',h2,h3,h4⟩
  |true=>
   simp only[BG]at hr;obtain⟨l,hl,rfl⟩:=hr;unfold Yd at hl;split at hl;rotate_left
   ·cases hl
   rename_i hns;have hd:Den G.T X G.nt v st a {w with drawn:=w.drawn+1}:=⟨h.size,h.defers,h.env,h.hp.drawn _⟩;generalize hgs:NZ G ops ops.toList st (st.mem.map (·.1))=gs at hl;have hsub:∀g∈gs,g∈st.mem.map (·.1):=by
    have:∀(l:List Oper) (s:St) (gs:List Nat),∀g∈NZ G ops l s gs,g∈gs:=by
     intro l;induction l with
     |nil=>intro s gs g hg;exact hg
     |cons o l ih=>
      intro s gs g hg;simp only[NZ]at hg;split at hg
      ·exact(IF.1 (ih _ _ g hg)).1
      ·simp at hg
    intro g hg;rw[<-hgs]at hg;exact this _ _ _ g hg
   have hlt:∀g∈gs,g<st.next:=by
    intro g hg;obtain⟨p,h1,rfl⟩:=BY.1 (hsub g hg);have:=(h.hp.mem p h1).2;simp only[C6,Aq,A_]at this;exact this.1
   refine wp_region_held (S:=Hi v {w with drawn:=w.drawn+1} gs) hmix ?_;refine Yc (st0:=st) hty hC hm0 hM0 Ad0 hns hlt hl (DT.2 V) hd (Ext.refl _ _) (Ay _) (λ_ _ _ _=>rfl) ?_;rintro a' w' ⟨s,h1,v',h2,h3,h4⟩;exact⟨(.nrm,s),BY.2 ⟨s,h1,rfl⟩,trivial,v',h2,h3,h4⟩
 | .seq x y,v,st,a,w,outs,h,hr=>by
  simp only[DK]at hr;split at hr
  ·rename_i l hl;split at hr
   ·rename_i hd0 hs0 hlo;unfold Aag at hr;simp only at hr;generalize Kk (Ih x++((hd0::hs0).flatMap λh=>h.slots.map (·.1))) st.env []=base at hr;split at hr;rotate_left
    ·cases hr
    rename_i rs hrs;split at hr;rotate_left
    ·cases hr
    rename_i hall hbo;split at hr<;>cases hr;rename_i q hq;simp only[Bg]at hall hbo;refine wp_seq (wp_mono (Ik hty hmix hC hm0 hM0 hgh x h hl) ?_);rintro e a' w' ⟨⟨kk,s⟩,h1,h2,v',h3,h4,h5⟩;have later:Kr kk=true->e≠ .normal->Exit.then (y.wp P (Ends G.T X G.nt v st (q++l.filter λp=>Kr p.1))) (Ends G.T X G.nt v st (q++l.filter λp=>Kr p.1)) e a' w':=by
     intro hn he;have hE:Ends G.T X G.nt v st (q++l.filter λp=>Kr p.1) e a' w':=⟨(kk,s),B3.2 (.inr (IF.2 ⟨h1,hn⟩)),h2,v',h3,h4,h5⟩;cases e<;>first|exact hE|exact(he V).elim
    cases kk with
    |nrm=>
     cases e<;>simp only[XK.is]at h2;have ht:=hall (.nrm,s) h1;simp only at ht;split at ht;rotate_left
     ·cases ht
     rename_i ls hls;simp only[Bg]at ht;obtain⟨s',hs1,hs2,hs3,_,_⟩:=J6 h5 hls;obtain⟨r,hr,s1,vec,hm,_⟩:=WJ (ht s' hs1);obtain⟨tm,t1,v3,t2,t3,t4,_⟩:=ZJ h.hp hs2 h3 hbo (by rw[<-hlo]at hrs;exact hgh _ _ (NA hrs r hr).1) (NA hrs r hr).2 hm;obtain⟨l1,k1,k2⟩:=Ef hq r hr;obtain⟨l2,k3,k4⟩:=Ef k1 tm t1;refine Ak (wp_mono (Ik hty hmix hC hm0 hM0 hgh y t3 k3) ?_);rintro e a'' w'' ⟨p,q1,q2,v2,q3,q4,q5⟩;exact⟨p,B3.2 (.inl (k2 _ (k4 _ q1))),q2,v2,t2.trans q3 t4,AX t4 q4,q5⟩
    |ex i=>exact later rfl (by rintro rfl;simp[XK.is]at h2)
    |rt=>exact later rfl (by rintro rfl;simp[XK.is]at h2)
   refine wp_seq (wp_mono (Ik hty hmix hC hm0 hM0 hgh x h hl) ?_);rintro e a' w' ⟨⟨kk,s⟩,h1,h2,v',h3,h4,h5⟩;obtain⟨l2,k1,k2⟩:=Ef hr _ h1;have later:∀(kk':XK),kk=kk'->(kk'= .nrm->False)->e≠ .normal->Exit.then (y.wp P (Ends G.T X G.nt v st outs)) (Ends G.T X G.nt v st outs) e a' w':=by
    intro kk' hkk hn he;subst hkk;have:l2=[(kk,s)]:=by
     cases kk with
     |nrm=>exact(hn V).elim
     |ex i=>simp only at k1;cases k1;rfl
     |rt=>simp only at k1;cases k1;rfl
    subst this;have hE:Ends G.T X G.nt v st outs e a' w':=⟨(kk,s),k2 _ (DT.2 rfl),h2,v',h3,h4,h5⟩;cases e<;>first|exact hE|exact(he V).elim
   cases kk with
   |nrm=>
    cases e<;>simp only[XK.is]at h2;simp only at k1;refine Ak (wp_mono (Ik hty hmix hC hm0 hM0 hgh y h5 k1) ?_);rintro e a'' w'' ⟨p,q1,q2,v2,q3,q4,q5⟩;exact⟨p,k2 _ q1,q2,v2,h3.trans q3 h4,AX h4 q4,q5⟩
   |ex i=>exact later _ rfl (by simp) (by rintro rfl;simp[XK.is]at h2)
   |rt=>exact later _ rfl (by simp) (by rintro rfl;simp[XK.is]at h2)
  ·cases hr
 | .cond c x y,v,st,a,w,outs,h,hr=>by
  simp only[DK]at hr;split at hr
  ·rename_i cc hcc;split at hr
   ·rename_i ts fs hb;split at hr<;>cases hr;rename_i p q hp hq;have hc:=Db h hcc;obtain⟨bb,hbb,s,h3,h4,h5,_⟩:=OU h hb hc.1;cases bb with
    |true=>
     obtain⟨l2,k1,k2⟩:=Ef hp s h3;refine wp_cond_true hbb (wp_mono (Ik hty hmix hC hm0 hM0 hgh x h4 k1) ?_);rintro e a' w' ⟨r,q1,q2,v2,q3,q4,q5⟩;exact⟨r,by simp[k2 r q1],q2,v2,by rw[<-h5];exact q3,by rw[<-h5];exact q4,q5⟩
    |false=>
     obtain⟨l2,k1,k2⟩:=Ef hq s h3;refine wp_cond_false hbb (wp_mono (Ik hty hmix hC hm0 hM0 hgh y h4 k1) ?_);rintro e a' w' ⟨r,q1,q2,v2,q3,q4,q5⟩;exact⟨r,by simp[k2 r q1],q2,v2,by rw[<-h5];exact q3,by rw[<-h5];exact q4,q5⟩
   ·cases hr
  ·cases hr
 | .block id c,v,st,a,w,outs,h,hr=>by
  simp only[DK,BG]at hr;obtain⟨l,hl,rfl⟩:=hr;refine wp_block (wp_mono (Ik hty hmix hC hm0 hM0 hgh c h hl) ?_);rintro e a' w' ⟨⟨kk,s⟩,h1,h2,v',h3,h4,h5⟩;cases kk with
  |nrm=>
   cases e<;>simp only[XK.is]at h2;exact BK ⟨_,BY.2 ⟨_,h1,rfl⟩,trivial,v',h3,h4,h5⟩
  |rt=>
   cases e<;>simp only[XK.is]at h2;exact GL ⟨_,BY.2 ⟨_,h1,rfl⟩,trivial,v',h3,h4,h5⟩
  |ex i=>
   cases e<;>simp only[XK.is]at h2;rename_i j;subst h2;cases hb:Nat.beq i id with
   |true=>
    have:=AH hb;subst this;refine B_ ⟨_,BY.2 ⟨_,h1,rfl⟩,?_,v',h3,?_,?_⟩
    ·simp[hb,XK.is]
    ·simp[hb,h4]
    ·simp only[hb];exact h5
   |false=>
    refine OS hb ⟨_,BY.2 ⟨_,h1,rfl⟩,?_,v',h3,?_,?_⟩
    ·simp[hb,XK.is]
    ·simp[hb,h4]
    ·simp only[hb];exact h5
 | .loop c,v,st,a,w,outs,h,hr=>by
  simp only[DK]at hr;exact Arn (hgh _) (λhd hrun=>Ik hty hmix hC hm0 hM0 hgh c hd hrun) h hr
 | .exit id,v,st,a,w,outs,h,hr=>by
  simp only[DK]at hr;cases hr;exact wp_exit ⟨(.ex id,st),by simp,rfl,v,Ext.refl _ _,Ay _,h⟩
 | .ret,v,st,a,w,outs,h,hr=>by
  simp only[DK]at hr;cases hr;exact wp_ret ⟨(.rt,st),by simp,trivial,v,Ext.refl _ _,Ay _,h⟩
 | .rangeFunc ..,_,_,_,_,_,_,hr=>by simp only[DK]at hr;cases hr
 | .scope _,_,_,_,_,_,_,hr=>by simp only[DK]at hr;cases hr
 | .label _,_,_,_,_,_,_,hr=>by simp only[DK]at hr;cases hr
 | .goto _,_,_,_,_,_,_,hr=>by simp only[DK]at hr;cases hr
 | .refuse _,_,_,_,_,_,_,hr=>by simp only[DK]at hr;cases hr
end
end Go.Ck