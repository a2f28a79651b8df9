import Derived.Test.YtdldhfocpandoaaGreatStA
noncomputable section
set_option maxHeartbeats 8000000
set_option maxRecDepth 8000
namespace Go.Ck
structure LE where
 c:Int
 l:List (Nat×Int)
 deriving Inhabited
def C5(ρ:Nat->Int):List (Nat×Int)->Int
 |[]=>0
 |(v,k)::r=>k*ρ v+C5 ρ r
def LE.ev(ρ:Nat->Int)(e:LE):Int:=e.c+C5 ρ e.l
def ES:Int->Bool
 | .ofNat n=>Nat.beq n 0
 | .negSucc _=>false
def Nh:Int->Bool
 | .ofNat _=>true
 | .negSucc _=>false
theorem Hy{n:Int}(h:ES n=true):n=0:=by
 cases n with
 |ofNat n=>simp only[ES]at h;rw[AH h];rfl
 |negSucc n=>simp[ES]at h
theorem Vy{n:Int}(h:Nh n=true):0<=n:=by
 cases n with
 |ofNat n=>exact Ox n
 |negSucc n=>simp[Nh]at h
def FK(v:Nat)(k:Int)(r:List (Nat×Int)):List (Nat×Int):=match ES k with
 |true=>r
 |false=>(v,k)::r
theorem PK(ρ:Nat->Int)(v:Nat)(k:Int)(r:List (Nat×Int)):C5 ρ (FK v k r)=k*ρ v+C5 ρ r:=by
 unfold FK;split
 ·rename_i h;rw[Hy h];simp
 ·rfl
def Fp(a:Int):List (Nat×Int)->List (Nat×Int)
 |[]=>[]
 |(v,k)::r=>FK v (a*k) (Fp a r)
theorem MN(ρ:Nat->Int)(a:Int):∀l,C5 ρ (Fp a l)=a*C5 ρ l
 |[]=>by simp[Fp,C5]
 |(v,k)::r=>by simp only[Fp,PK,MN ρ a r,C5,KB,Rn]
def Gw(a b:Int):Nat->List (Nat×Int)->List (Nat×Int)->List (Nat×Int)
 |0,_,_=>[]
 |_+1,[],r=>Fp b r
 |_+1,l,[]=>Fp a l
 |f+1,(u,i)::l,(v,j)::r=>
  match Nat.beq u v with
  |true=>FK u (a*i+b*j) (Gw a b f l r)
  |false=>match Nat.ble u v with
   |true=>FK v (b*j) (Gw a b f ((u,i)::l) r)
   |false=>FK u (a*i) (Gw a b f l ((v,j)::r))
theorem PL(ρ:Nat->Int)(a b:Int):∀(f:Nat) (l r:List (Nat×Int)),l.length+r.length<f->C5 ρ (Gw a b f l r)=a*C5 ρ l+b*C5 ρ r
 |0,_,_,h=>by omega
 |_+1,[],r,_=>by simp[Gw,MN,C5]
 |_+1,(u,i)::l,[],_=>by simp only[Gw,MN,C5];omega
 |f+1,(u,i)::l,(v,j)::r,h=>by
  simp only[Cg]at h;simp only[Gw];split
  ·rename_i hu;rw[PK,PL ρ a b f l r (by omega)];have:u=v:=AH hu;subst this;simp only[C5,KB,Int.add_mul,Rn];omega
  ·split
   ·rw[PK,PL ρ a b f _ r (by simp only[Cg];omega)];simp only[C5,KB,Rn];omega
   ·rw[PK,PL ρ a b f l _ (by simp only[Cg];omega)];simp only[C5,KB,Rn];omega
def Ls(a:Int)(e:LE)(b:Int)(f:LE):LE:=⟨a*e.c+b*f.c,Gw a b (e.l.length+f.l.length+1) e.l f.l⟩
theorem V7(ρ:Nat->Int)(a:Int)(e:LE)(b:Int)(f:LE):(Ls a e b f).ev ρ=a*e.ev ρ+b*f.ev ρ:=by
 simp only[Ls,LE.ev,PL ρ a b _ e.l f.l (Cb _),KB];omega
def LE.k(c:Int):LE:=⟨c,[]⟩
def LE.s(v:Nat):LE:=⟨0,[(v,1)]⟩
def LE.add(e f:LE):LE:=Ls 1 e 1 f
def LE.sub(e f:LE):LE:=Ls 1 e (-1) f
def LE.addk(e:LE)(c:Int):LE:=⟨e.c+c,e.l⟩
def LE.neg(e:LE):LE:=⟨-e.c,Fp (-1) e.l⟩
def LE.mul(a:Int)(e:LE):LE:=⟨a*e.c,Fp a e.l⟩
@[simp] theorem LE.k_ev (ρ:Nat->Int) (c:Int):(LE.k c).ev ρ=c:=by simp[LE.k,LE.ev,C5]
@[simp] theorem LE.s_ev (ρ:Nat->Int) (v:Nat):(LE.s v).ev ρ=ρ v:=by simp[LE.s,LE.ev,C5]
@[simp] theorem LE.add_ev (ρ:Nat->Int) (e f:LE):(LE.add e f).ev ρ=e.ev ρ+f.ev ρ:=by simp[LE.add,V7]
@[simp] theorem LE.sub_ev (ρ:Nat->Int) (e f:LE):(LE.sub e f).ev ρ=e.ev ρ-f.ev ρ:=by simp[LE.sub,V7];omega
@[simp] theorem LE.addk_ev (ρ:Nat->Int) (e:LE) (c:Int):(LE.addk e c).ev ρ=e.ev ρ+c:=by simp[LE.addk,LE.ev];omega
@[simp] theorem LE.neg_ev (ρ:Nat->Int) (e:LE):(LE.neg e).ev ρ= -e.ev ρ:=by simp[LE.neg,LE.ev,MN];omega
@[simp] theorem LE.mul_ev (ρ:Nat->Int) (a:Int) (e:LE):(LE.mul a e).ev ρ=a*e.ev ρ:=by simp[LE.mul,LE.ev,MN,KB]
def Bq(k:Nat):List (Nat×Int)->Bool
 |[]=>true
 |(v,_)::r=>Nat.blt v k&&Bq k r
def LE.ok(k:Nat)(e:LE):Bool:=Bq k e.l
theorem Abd{k:Nat}{ρ ρ':Nat->Int}(h:∀i,i<k->ρ' i=ρ i):∀{l:List (Nat×Int)},Bq k l=true->C5 ρ' l=C5 ρ l
 |[],_=>rfl
 |(v,i)::r,hk=>by
  simp only[Bq,Aq,A_]at hk;simp only[C5,h v hk.1,Abd h hk.2]
variable{e:LE}{ρ:Nat->Int}
theorem Bj{k:Nat}{ρ':Nat->Int}(h:∀i,i<k->ρ' i=ρ i)(hk:e.ok k=true):e.ev ρ'=e.ev ρ:=by
 simp only[LE.ev,Abd h hk]
theorem Abe{k k':Nat}(h:k<=k'):∀{l:List (Nat×Int)},Bq k l=true->Bq k' l=true
 |[],_=>rfl
 |(v,i)::r,hk=>by
  simp only[Bq,Aq,A_]at hk⊢;exact⟨by omega,Abe h hk.2⟩
variable{k':Nat}
theorem LE.ok_mono{k:Nat}(h:k<=k')(hk:e.ok k=true):e.ok k'=true:=Abe h hk
def Lc:List (Nat×Int)->List (Nat×Int)->Bool
 |[],[]=>true
 |(u,i)::l,(v,j)::r=>Nat.beq u v&&ES (i-j)&&Lc l r
 |_,_=>false
def LE.eqb(e f:LE):Bool:=ES (e.c-f.c)&&Lc e.l f.l
theorem Zf:∀{l r:List (Nat×Int)},Lc l r=true->l=r
 |[],[],_=>rfl
 |(u,i)::l,(v,j)::r,h=>by
  simp only[Lc,Aq]at h;rw[AH h.1.1,Zf h.2,show i=j by have:=Hy h.1.2;omega]
 |[],_::_,h=>by simp[Lc]at h
 |_::_,[],h=>by simp[Lc]at h
variable{f:LE}
theorem Dp(h:e.eqb f=true):e=f:=by
 simp only[LE.eqb,Aq]at h;cases e;cases f;simp only at h;rw[Zf h.2];congr 1;have:=Hy h.1;omega
theorem Abf{k:Nat}(a b:Int):∀(f:Nat) (l r:List (Nat×Int)),Bq k l=true->Bq k r=true->Bq k (Gw a b f l r)=true:=by
 have c0:∀{u:Nat}{i:Int}{l:List (Nat×Int)},u<k->Bq k l=true->Bq k (FK u i l)=true:=by
  intro u i l hu hl;unfold FK;split
  ·exact hl
  ·simp only[Bq,Aq,A_];exact⟨hu,hl⟩
 have c1:∀(a:Int) (l:List (Nat×Int)),Bq k l=true->Bq k (Fp a l)=true:=by
  intro a l;induction l with
  |nil=>intro _;rfl
  |cons p l ih=>
   intro h;obtain⟨u,i⟩:=p;simp only[Bq,Aq,A_]at h;exact c0 h.1 (ih h.2)
 intro f;induction f with
 |zero=>intro l r _ _;rfl
 |succ f ih=>
  intro l r hl hr;cases l with
  |nil=>exact c1 b r hr
  |cons p l=>
   obtain⟨u,i⟩:=p;cases r with
   |nil=>exact c1 a _ hl
   |cons q r=>
    obtain⟨z,j⟩:=q;have hl':=hl;have hr':=hr;simp only[Bq,Aq,A_]at hl hr;simp only[Gw];split
    ·exact c0 hl.1 (ih _ _ hl.2 hr.2)
    ·split
     ·exact c0 hr.1 (ih _ _ hl' hr.2)
     ·exact c0 hl.1 (ih _ _ hl.2 hr')
theorem Rq{k:Nat}(he:e.ok k=true)(hf:f.ok k=true):(LE.sub e f).ok k=true:=Abf _ _ _ _ _ he hf
theorem Mc{k:Nat}(he:e.ok k=true)(hf:f.ok k=true):(LE.add e f).ok k=true:=Abf _ _ _ _ _ he hf
def Ey:Int->Int
 | .ofNat n=>.ofNat n
 | .negSucc n=>.ofNat (n+1)
def Holds(ρ:Nat->Int)(fs:List LE):Prop:=∀f∈fs,0<=f.ev ρ
def Ln(k d:Nat)(g:LE):List (Nat×Nat×LE)->List (Nat×Nat×LE)
 |[]=>[(k,d,g)]
 |h::r=>match Nat.ble k h.1 with
  |true=>(k,d,g)::h::r
  |false=>h::Ln k d g r
noncomputable section
def Qg(i:Int):Bool:=Int.rec (λn=>Nat.beq n 0) (λ_=>false) i
def Ni(i:Int):Bool:=Int.rec (λ_=>true) (λ_=>false) i
def Hn(v:Nat)(k:Int)(r:List (Nat×Int)):List (Nat×Int):=Bool.rec ((v,k)::r) r (Qg k)
def Ly(a:Int)(l:List (Nat×Int)):List (Nat×Int):=List.rec (motive:=λ_=>List (Nat×Int)) [] (λp _ ih=>Hn p.1 (a*p.2) ih) l
def Kp(a b:Int)(l:List (Nat×Int)):List (Nat×Int)->List (Nat×Int):=
 List.rec (motive:=λ_=>List (Nat×Int)->List (Nat×Int)) (λr=>Ly b r)
  (λp l ih r=>List.rec (motive:=λ_=>List (Nat×Int)) (Ly a (p::l))
   (λq r' ihr=>Bool.rec (Bool.rec (Hn p.1 (a*p.2) (ih (q::r'))) (Hn q.1 (b*q.2) ihr) (Nat.ble p.1 q.1)) (Hn p.1 (a*p.2+b*q.2) (ih r')) (Nat.beq p.1 q.1)) r) l
def Qi(a:Int)(e:LE)(b:Int)(f:LE):LE:=⟨a*e.c+b*f.c,Kp a b e.l f.l⟩
def Nr(a:Int)(e:LE)(b:Int)(f:LE):LE:=⟨a*e.c+b*f.c+(a-1),Kp a b e.l f.l⟩
def Am8(l:List (Nat×Int)):List (Nat×Int)->Bool:=
 List.rec (motive:=λ_=>List (Nat×Int)->Bool) (λr=>List.rec (motive:=λ_=>Bool) true (λ_ _ _=>false) r)
  (λp _ ih r=>List.rec (motive:=λ_=>Bool) false (λq r' _=>Bool.rec false (Bool.rec false (ih r') (Qg (p.2-q.2))) (Nat.beq p.1 q.1)) r) l
def Ana(e f:LE):Bool:=Bool.rec false (Am8 e.l f.l) (Qg (e.c-f.c))
def Wz(g:LE)(l:List LE):Bool:=List.rec (motive:=λ_=>Bool) false (λh _ ih=>Bool.rec ih true (Ana g h)) l
def Fh(v:Nat)(l:List (Nat×Int)):Int:=List.rec (motive:=λ_=>Int) (0:Int) (λp _ ih=>Bool.rec (0:Int) (Bool.rec ih p.2 (Nat.beq p.1 v)) (Nat.ble v p.1)) l
def Nd(v:Nat)(l:List (Nat×Int)):Bool:=List.rec (motive:=λ_=>Bool) false (λp _ ih=>Bool.rec false (Bool.rec ih (Int.rec (λn=>Nat.ble 1 n) (λ_=>false) p.2) (Nat.beq p.1 v)) (Nat.ble v p.1)) l
def Nc(v:Nat)(l:List (Nat×Int)):Bool:=List.rec (motive:=λ_=>Bool) false (λp _ ih=>Bool.rec false (Bool.rec ih (Int.rec (λ_=>false) (λ_=>true) p.2) (Nat.beq p.1 v)) (Nat.ble v p.1)) l
def Qc(k d:Nat)(g:LE)(l:List (Nat×Nat×LE)):List (Nat×Nat×LE):=
 List.rec (motive:=λ_=>List (Nat×Nat×LE)) [(k,d,g)] (λh r ih=>Bool.rec (h::ih) ((k,d,g)::h::r) (Nat.ble k h.1)) l
def ZK(v d:Nat)(g:LE):Nat:=2*g.l.length+d+(List.rec (motive:=λ_=>Nat) 0 (λp _ _=>Bool.rec 8 0 (Nat.ble p.1 v)) g.l)+Bool.rec 16 0 (Ni (g.c+1000000000000000))
def Pb(v d:Nat)(k:Int)(g f:LE)(ih:List (Nat×Nat×LE)):List (Nat×Nat×LE):=(λx=>Qc (ZK v d x) d x ih) (Nr (Ey (Fh v f.l)) g (-(Ey k)) f)
def Aha(v d:Nat)(k:Int)(g:LE)(rest:List (Nat×Nat×LE))(fs:List LE):List (Nat×Nat×LE):=
 List.rec (motive:=λ_=>List (Nat×Nat×LE)) rest (λf _ ih=>Bool.rec ih (Pb v d k g f ih) (Nd v f.l)) fs
def Ag_(v d:Nat)(k:Int)(g:LE)(rest:List (Nat×Nat×LE))(fs:List LE):List (Nat×Nat×LE):=
 List.rec (motive:=λ_=>List (Nat×Nat×LE)) rest (λf _ ih=>Bool.rec ih (Pb v d k g f ih) (Nc v f.l)) fs
def ST(v d:Nat)(k:Int)(g:LE)(rest:List (Nat×Nat×LE))(fs:List LE):List (Nat×Nat×LE):=
 Int.rec (λ_=>Aha v d k g rest fs) (λ_=>Ag_ v d k g rest fs) k
def LC(fs:List LE)(n:Nat):List LE->List (Nat×Nat×LE)->Bool:=
 Nat.rec (motive:=λ_=>List LE->List (Nat×Nat×LE)->Bool) (λ_ _=>false)
  (λ_ ih seen q=>List.rec (motive:=λ_=>Bool) false (λh rest _=>
   List.rec (motive:=λ_=>Bool) (Bool.rec (ih seen rest) true (Ni h.2.2.c))
    (λp _ _=>Bool.rec (ih (h.2.2::seen) (ST p.1 (h.2.1+1) p.2 h.2.2 rest fs)) (ih seen rest) (Wz h.2.2 seen)) h.2.2.l) q) n
end
theorem Aq2(i:Int):Qg i=ES i:=by cases i<;>rfl
theorem Aqu(i:Int):Ni i=Nh i:=by cases i<;>rfl
theorem YI(v:Nat)(k:Int)(r:List (Nat×Int)):Hn v k r=FK v k r:=by
 unfold Hn FK;rw[Aq2];cases ES k<;>rfl
theorem VO(a:Int):∀l,Ly a l=Fp a l
 |[]=>rfl
 |p::l=>by
  have h:=VO a l;show Hn p.1 (a*p.2) (Ly a l)=FK p.1 (a*p.2) (Fp a l);rw[h,YI]
theorem Qr(a b:Int):∀(f:Nat) (l r:List (Nat×Int)),l.length+r.length<f->Kp a b l r=Gw a b f l r
 |0,_,_,h=>by omega
 |f+1,[],r,_=>by
  show Ly b r=_;rw[VO];cases r<;>rfl
 |f+1,p::l,[],_=>by
  show Ly a (p::l)=_;rw[VO];rfl
 |f+1,(u,i)::l,(v,j)::r,h=>by
  simp only[Cg]at h;have h1:=Qr a b f l r (by omega);have h2:=Qr a b f ((u,i)::l) r (by simp only[Cg];omega);have h3:=Qr a b f l ((v,j)::r) (by simp only[Cg];omega);have e:Kp a b ((u,i)::l) ((v,j)::r)=Bool.rec (motive:=λ_=>_) (Bool.rec (motive:=λ_=>_) (Hn u (a*i) (Kp a b l ((v,j)::r))) (Hn v (b*j) (Kp a b ((u,i)::l) r)) (Nat.ble u v)) (Hn u (a*i+b*j) (Kp a b l r)) (Nat.beq u v):=rfl;rw[e,h1,h2,h3];simp only[Gw,YI];cases Nat.beq u v<;>cases Nat.ble u v<;>rfl
theorem Aq_(a:Int)(e:LE)(b:Int)(f:LE):Qi a e b f=Ls a e b f:=by
 unfold Qi Ls;rw[Qr a b _ _ _ (Cb _)]
theorem ZH(v:Nat):∀{l:List (Nat×Int)},Nd v l=true->0<Ey (Fh v l)
 |[],h=>by cases h
 |(u,k)::l,h=>by
  have ih:=@ZH v l;have e1:Nd v ((u,k)::l)=Bool.rec (motive:=λ_=>Bool) false (Bool.rec (motive:=λ_=>Bool) (Nd v l) (Int.rec (λn=>Nat.ble 1 n) (λ_=>false) k) (Nat.beq u v)) (Nat.ble v u):=rfl;have e2:Fh v ((u,k)::l)=Bool.rec (motive:=λ_=>Int) (0:Int) (Bool.rec (motive:=λ_=>Int) (Fh v l) k (Nat.beq u v)) (Nat.ble v u):=rfl;rw[e1]at h;rw[e2];cases h1:Nat.ble v u<;>cases h2:Nat.beq u v<;>simp only[h1,h2]at h⊢
  ·cases h
  ·cases h
  ·exact ih h
  ·cases k with
   |ofNat n=>have:=CK h;simp only[Ey];simp;omega
   |negSucc n=>cases h
theorem ZG(v:Nat):∀{l:List (Nat×Int)},Nc v l=true->0<Ey (Fh v l)
 |[],h=>by cases h
 |(u,k)::l,h=>by
  have ih:=@ZG v l;have e1:Nc v ((u,k)::l)=Bool.rec (motive:=λ_=>Bool) false (Bool.rec (motive:=λ_=>Bool) (Nc v l) (Int.rec (λ_=>false) (λ_=>true) k) (Nat.beq u v)) (Nat.ble v u):=rfl;have e2:Fh v ((u,k)::l)=Bool.rec (motive:=λ_=>Int) (0:Int) (Bool.rec (motive:=λ_=>Int) (Fh v l) k (Nat.beq u v)) (Nat.ble v u):=rfl;rw[e1]at h;rw[e2];cases h1:Nat.ble v u<;>cases h2:Nat.beq u v<;>simp only[h1,h2]at h⊢
  ·cases h
  ·cases h
  ·exact ih h
  ·cases k with
   |ofNat n=>cases h
   |negSucc n=>simp only[Ey];exact Int.natCast_pos.2 (Nat.succ_pos n)
theorem Arv(a:Int):0<=Ey a:=by
 cases a with
 |ofNat n=>exact Ox n
 |negSucc n=>exact Ox (n+1)
theorem ZV(k d:Nat)(g:LE):∀l,Qc k d g l=Ln k d g l
 |[]=>rfl
 |h::l=>by
  have ih:=ZV k d g l;show Bool.rec (motive:=λ_=>_) (h::Qc k d g l) ((k,d,g)::h::l) (Nat.ble k h.1)=_;rw[ih];simp only[Ln];cases Nat.ble k h.1<;>rfl
def BF(fs:List LE)(d:Nat)(g:LE):Bool:=LC fs (d*d*d) [] [(0,0,g)]
theorem ZU{k d:Nat}{g:LE}{h:Nat×Nat×LE}:∀{r:List (Nat×Nat×LE)},h∈Ln k d g r->h=(k,d,g)\/h∈r
 |[],hh=>by simp only[Ln,Ao,AB,or_false]at hh;exact .inl hh
 |x::r,hh=>by
  simp only[Ln]at hh;split at hh
  ·rcases Ao.1 hh with hh|hh
   ·exact .inl hh
   ·exact .inr hh
  ·rcases Ao.1 hh with hh|hh
   ·exact .inr (by simp[hh])
   ·rcases ZU hh with hh|hh
    ·exact .inl hh
    ·exact .inr (by simp[hh])
variable{d:Nat}
theorem Ag9{v:Nat}{k:Int}{g:LE}{ih:List (Nat×Nat×LE)}(hf:0<=f.ev ρ)(hc:0<Ey (Fh v f.l)):∀h∈Pb v d k g f ih,0<=h.2.2.ev ρ->0<=g.ev ρ\/h∈ih:=by
 intro h hm hp;have hm:h∈Qc (ZK v d (Nr (Ey (Fh v f.l)) g (-Ey k) f)) d (Nr (Ey (Fh v f.l)) g (-Ey k) f) ih:=hm;rw[ZV]at hm;rcases ZU hm with rfl|hm
 ·left;simp only at hp;have hq:(Nr (Ey (Fh v f.l)) g (-Ey k) f).ev ρ=(Qi (Ey (Fh v f.l)) g (-Ey k) f).ev ρ+(Ey (Fh v f.l)-1):=by simp only[Nr,Qi,LE.ev];omega
  rw[hq,Aq_,V7]at hp;have h5:=Ro (Arv k) hf;have h6:0<Ey (Fh v f.l)*(g.ev ρ+1):=by
   rw[Int.neg_mul]at hp;rw[KB];omega
  have:0<g.ev ρ+1:=Int.pos_of_mul_pos_right h6 hc;omega
 ·exact .inr hm
variable{fs:List LE}
theorem Ahb{v:Nat}{k:Int}{g:LE}{rest:List (Nat×Nat×LE)}(hf:Holds ρ fs):∀h∈ST v d k g rest fs,0<=h.2.2.ev ρ->0<=g.ev ρ\/h∈rest:=by
 have key:∀(has:LE->Bool),(∀f,has f=true->0<Ey (Fh v f.l))->∀{fs:List LE},Holds ρ fs->∀h∈(List.rec (motive:=λ_=>List (Nat×Nat×LE)) rest (λf _ ih=>Bool.rec ih (Pb v d k g f ih) (has f)) fs:List (Nat×Nat×LE)),
  0<=h.2.2.ev ρ->0<=g.ev ρ\/h∈rest:=by
  intro has hh fs;induction fs with
  |nil=>intro _ h hm _;exact .inr hm
  |cons f fs ih=>
   intro hf h hm hp;have ih:=ih (λx hx=>hf x (by simp[hx]));simp only at hm;cases hb:has f<;>simp only[hb]at hm
   ·exact ih h hm hp
   ·rcases Ag9 (hf f (by simp)) (hh f hb) h hm hp with h1|h1
    ·exact .inl h1
    ·exact ih h h1 hp
 cases k with
 |ofNat n=>exact key (λf=>Nd v f.l) (λf=>ZH v) hf
 |negSucc n=>exact key (λf=>Nc v f.l) (λf=>ZG v) hf
theorem QB{ρ:Nat->Int}{fs:List LE}(h:Holds ρ fs):∀(n:Nat) (seen:List LE) (gs:List (Nat×Nat×LE)),LC fs n seen gs=true->∃g∈gs,0<=g.2.2.ev ρ
 |0,_,gs,hp=>by cases hp
 |n+1,_,[],hp=>by cases hp
 |n+1,seen,(q,d,g)::rest,hp=>by
  have e:LC fs (n+1) seen ((q,d,g)::rest)=List.rec (motive:=λ_=>Bool) (Bool.rec (motive:=λ_=>Bool) (LC fs n seen rest) true (Ni g.c))
   (λp _ _=>Bool.rec (motive:=λ_=>Bool) (LC fs n (g::seen) (ST p.1 (d+1) p.2 g rest fs)) (LC fs n seen rest) (Wz g seen)) g.l:=rfl
  rw[e]at hp;cases hg:g.l with
  |nil=>
   rw[hg]at hp;simp only at hp;cases hc:Ni g.c<;>simp only[hc]at hp
   ·obtain⟨x,h1,h2⟩:=QB h n _ rest hp;exact⟨x,by simp[h1],h2⟩
   ·refine⟨(q,d,g),by simp,?_⟩;rw[Aqu]at hc;have:=Vy hc;simp only[LE.ev,hg,C5];omega
  |cons p l=>
   rw[hg]at hp;simp only at hp;cases hs:Wz g seen<;>simp only[hs]at hp
   ·obtain⟨x,h1,h2⟩:=QB h n _ _ hp;rcases Ahb h x h1 h2 with h3|h3
    ·exact⟨(q,d,g),by simp,h3⟩
    ·exact⟨x,by simp[h3],h2⟩
   ·obtain⟨x,h1,h2⟩:=QB h n _ rest hp;exact⟨x,by simp[h1],h2⟩
theorem BU(h:Holds ρ fs):∀(d:Nat) (g:LE),BF fs d g=true->0<=g.ev ρ:=by
 intro d g hp;obtain⟨x,h1,h2⟩:=QB h _ _ _ hp;simp only[Ao,AB,or_false]at h1;subst h1;exact h2
open Go.Sx
inductive CT where
 |int (k:IntKind) (c:Nat)
 |bool (c:Nat)
 |str (c0 c1 c2:Nat)
 |fz (e:Nat) (c:Nat)
 |ar (k:IntKind) (c0 c1:Nat)
 |pt (e:Nat) (c0 c1:Nat)
 |kd (c:Nat)
 deriving DecidableEq
inductive CV where
 |int (n:Int)
 |bool (b:Bool)
 |str (s:ByteArray)
 |fz (l:List (List CV))
 |ar (n:Nat)
 |pn
 |pt (r:List CV)
 |kd (n:Int)
structure ET where
 cells:List CT
 base:Nat
 deep:Nat
 inv:List LE
 up:Bool:=false
abbrev Ar:=Nat->ET
def Dr:Bool->Int
 |true=>1
 |false=>0
def DY(n:Int):Int:=if n=9\/n=15 then 3 else if n=1 then 1 else 0
theorem Abk(n:Int):0<=DY n:=by unfold DY;split<;>(try split)<;>omega
def CV.n:CV->Int
 | .int n=>n
 | .bool b=>Dr b
 | .str s=>s.size
 | .fz l=>l.length
 | .ar n=>n
 | .pn=>0
 | .pt _=>1
 | .kd n=>DY n
def EP(c:Nat)(n:Int):Int:=if c=0 then 0 else if-64<=n/\n<64 then 1 else 10
def CF(c0 c1 c2 n:Nat):Int:=if n=0 then(c0:Int)else c1+c2*n
mutual
def Bl(T:Ar):CV->CT->Int
 | .int n,.int _ c=>EP c n
 | .bool _,.bool c=>c
 | .str s,.str c0 c1 c2=>CF c0 c1 c2 s.size
 | .fz l,.fz e c=>c+Az T l e
 | .ar n,.ar _ c0 c1=>c0+c1*n
 | .pn,.pt _ c0 _=>c0
 | .pt r,.pt e _ c1=>c1+(T e).base+CP T r (T e).cells
 | .kd n,.kd c=>EP c n
 |_,_=>0
def CP(T:Ar):List CV->List CT->Int
 |c::r,t::ts=>Bl T c t+CP T r ts
 |_,_=>0
def Az(T:Ar):List (List CV)->Nat->Int
 |[],_=>0
 |r::l,e=>(T e).base+CP T r (T e).cells+Az T l e
end
mutual
def Df(T:Ar):CV->CT->Int
 | .fz l,.fz e _=>Bi T l e
 | .pt r,.pt e _ _=>(T e).deep+EC T r (T e).cells
 |_,_=>0
def EC(T:Ar):List CV->List CT->Int
 |c::r,t::ts=>max (Df T c t) (EC T r ts)
 |_,_=>0
def Bi(T:Ar):List (List CV)->Nat->Int
 |[],_=>0
 |r::l,e=>max ((T e).deep+EC T r (T e).cells) (Bi T l e)
end
theorem Je(c:Nat)(n:Int):0<=EP c n:=by unfold EP;split<;>(try split)<;>omega
theorem Acj(c0 c1 c2 n:Nat):0<=CF c0 c1 c2 n:=by
 unfold CF;split
 ·omega
 ·have:(0:Int)<=(c2:Int)*n:=Ro (by omega) (by omega);omega
mutual
theorem FD(T:Ar):∀(c:CV) (t:CT),0<=Bl T c t
 | .int n,t=>by cases t<;>simp[Bl,Je]
 | .bool _,t=>by cases t<;>simp[Bl]
 | .str s,t=>by cases t<;>simp[Bl,Acj]
 | .fz l,t=>by
  cases t<;>simp only[Bl,JG];rename_i e c;have:=EE T l e;omega
 | .ar n,t=>by
  cases t<;>simp only[Bl,JG];rename_i k c0 c1;have:(0:Int)<=(c1:Int)*n:=Ro (by omega) (by omega);omega
 | .pn,t=>by cases t<;>simp[Bl]
 | .kd n,t=>by cases t<;>simp[Bl,Je]
 | .pt r,t=>by
  cases t<;>simp only[Bl,JG];rename_i e c0 c1;have:=Nw T r (T e).cells;omega
theorem Nw(T:Ar):∀(r:List CV) (ts:List CT),0<=CP T r ts
 |[],ts=>by simp[CP]
 |c::r,[]=>by simp[CP]
 |c::r,t::ts=>by
  simp only[CP];have:=FD T c t;have:=Nw T r ts;omega
theorem EE(T:Ar):∀(l:List (List CV)) (e:Nat),0<=Az T l e
 |[],e=>by simp[Az]
 |r::l,e=>by
  simp only[Az];have:=Nw T r (T e).cells;have:=EE T l e;omega
end
theorem Ju(T:Ar)(e:Nat):∀(l k:List (List CV)),Az T (l++k) e=Az T l e+Az T k e
 |[],k=>by simp[Az]
 |r::l,k=>by simp only[CL,Az,Ju T e l k];omega
theorem Pn(T:Ar)(e:Nat):∀(l k:List (List CV)),Bi T (l++k) e=max (Bi T l e) (Bi T k e)
 |[],k=>by
  simp only[Dh,Bi];have:∀(k:List (List CV)),0<=Bi T k e:=by
   intro k;induction k with
   |nil=>simp[Bi]
   |cons r k ih=>simp only[Bi];omega
  have:=this k;omega
 |r::l,k=>by simp only[CL,Bi,Pn T e l k];omega
theorem IZ(T:Ar)(e:Nat):∀(l:List (List CV)),0<=Bi T l e
 |[]=>by simp[Bi]
 |r::l=>by simp only[Bi];have:=IZ T e l;omega
theorem Po(T:Ar):∀(r:List CV) (ts:List CT),0<=EC T r ts
 |[],ts=>by simp[EC]
 |c::r,[]=>by simp[EC]
 |c::r,t::ts=>by simp only[EC];have:=Po T r ts;omega
theorem Amt(T:Ar):∀(c:CV) (t:CT),0<=Df T c t:=by
 intro c t;cases c<;>cases t<;>simp only[Df,JG]
 ·exact IZ T _ _
 ·rename_i e _ _;have:=Po T ‹_› (T e).cells;omega
def Cq:IntKind->Int
 | .i8=>-128| .i16=>-32768| .i32=>-2147483648| .i64=>-9223372036854775808|_=>0
def C1:IntKind->Int
 | .i8=>127| .i16=>32767| .i32=>2147483647| .i64=>9223372036854775807| .u8=>255| .u16=>65535| .u32=>4294967295| .u64=>18446744073709551615
def Bs(k:IntKind)(n:Int):Prop:=Cq k<=n/\n<=C1 k
theorem QW(k:IntKind)(n:Int):Bs k (k.wrap n):=by
 cases k<;>simp only[Bs,Cq,C1,IntKind.wrap,IntKind.signed,IntKind.bits,Rf,On]<;>(try split)<;>simp_all<;>omega
theorem Xa{k:IntKind}{n:Int}(h:Bs k n):k.wrap n=n:=by
 cases k<;>simp only[Bs,Cq,C1]at h<;>simp only[IntKind.wrap,IntKind.signed,IntKind.bits,Rf,On]<;>(try split)<;>simp_all<;>omega
def AT:=Nat->Nat->Option Value
def AV:=Nat->Option (IntKind×Nat)
def ArV(A:AV)(k:IntKind)(n:Nat)(x:Value):Prop:=
 ∃a cap,x= .slice a n cap/\n<=cap/\cap<=maxLen/\((a=none/\cap=0)\/∃b o sz,a=some ⟨b,o,none⟩/\A b=some (k,sz)/\o+cap<=sz)
def InvR(T:Ar)(e:Nat)(r:List CV)(j:Nat):Prop:=
 ∀f∈(T e).inv,0<=f.ev λi=>if i=1000 then(j:Int)else((r[i]?).map CV.n).getD 0
mutual
def RepC(T:Ar)(M:AT)(A:AV):CV->CT->Value->Prop
 | .int n,.int k _,x=>x= .int k n/\Bs k n
 | .bool b,.bool _,x=>x= .bool b
 | .str s,.str _ _ _,x=>x= .string s/\s.size<=maxLen
 | .fz l,.fz e _,x=>∃a cap,x= .slice a l.length cap/\l.length<=maxLen/\(l=[]\/∃b o,a=some ⟨b,o,none⟩/\l.length<=cap/\cap<=maxLen/\RepL T M A l e b o 0)
 | .ar n,.ar k _ _,x=>ArV A k n x
 | .pn,.pt _ _ _,x=>x= .pointer none
 | .kd n,.kd _,x=>x= .int .i64 n/\Bs .i64 n
 | .pt r,.pt e _ _,x=>∃b o,x= .pointer (some ⟨b,o,none⟩)/\RepR T M A r (T e).cells b o
 |_,_,_=>False
def RepR(T:Ar)(M:AT)(A:AV):List CV->List CT->Nat->Nat->Prop
 |[],[],_,_=>True
 |c::r,t::ts,b,o=>(∃x,M b o=some x/\RepC T M A c t x)/\RepR T M A r ts b (o+1)
 |_,_,_,_=>False
def RepL(T:Ar)(M:AT)(A:AV):List (List CV)->Nat->Nat->Nat->Nat->Prop
 |[],_,_,_,_=>True
 |r::l,e,b,o,j=>RepR T M A r (T e).cells b o/\InvR T e r j/\RepL T M A l e b (o+(T e).cells.length) (j+1)
end
def DD(M M':AT):Prop:=∀b o x,M b o=some x->M' b o=some x
def Fb(A A':AV):Prop:=∀b x,A b=some x->A' b=some x
variable{x:Value}{A:AV}
theorem ArV.mono{A':AV}(hA:Fb A A'){k:IntKind}{n:Nat}(h:ArV A k n x):ArV A' k n x:=by
 obtain⟨a,cap,h1,h2,h3,h4⟩:=h;refine⟨a,cap,h1,h2,h3,h4.imp id ?_⟩;rintro⟨b,o,sz,h5,h6,h7⟩;exact⟨b,o,sz,h5,hA _ _ h6,h7⟩
mutual
theorem RepC.mono{T:Ar}{M M':AT}{A A':AV}(hM:DD M M')(hA:Fb A A'):∀(c:CV) (t:CT) (x:Value),RepC T M A c t x->RepC T M' A' c t x
 | .int n,t,x,h=>by cases t<;>simp only[RepC]at h⊢;exact h
 | .bool n,t,x,h=>by cases t<;>simp only[RepC]at h⊢;exact h
 | .str n,t,x,h=>by cases t<;>simp only[RepC]at h⊢;exact h
 | .pn,t,x,h=>by cases t<;>simp only[RepC]at h⊢;exact h
 | .kd n,t,x,h=>by cases t<;>simp only[RepC]at h⊢;exact h
 | .ar n,t,x,h=>by cases t<;>simp only[RepC]at h⊢;exact h.mono hA
 | .fz l,t,x,h=>by
  cases t<;>simp only[RepC]at h⊢;obtain⟨a,cap,h1,h2,h3⟩:=h;refine⟨a,cap,h1,h2,h3.imp id ?_⟩;rintro⟨b,o,h4,h5,h6,h7⟩;exact⟨b,o,h4,h5,h6,RepL.mono hM hA l _ _ _ _ h7⟩
 | .pt r,t,x,h=>by
  cases t<;>simp only[RepC]at h⊢;obtain⟨b,o,h1,h2⟩:=h;exact⟨b,o,h1,RepR.mono hM hA r _ _ _ h2⟩
theorem RepR.mono{T:Ar}{M M':AT}{A A':AV}(hM:DD M M')(hA:Fb A A'):∀(r:List CV) (ts:List CT) (b o:Nat),RepR T M A r ts b o->RepR T M' A' r ts b o
 |[],ts,b,o,h=>by cases ts<;>simp only[RepR]at h⊢
 |c::r,ts,b,o,h=>by
  cases ts<;>simp only[RepR]at h⊢;obtain⟨⟨x,h1,h2⟩,h3⟩:=h;exact⟨⟨x,hM _ _ _ h1,RepC.mono hM hA c _ x h2⟩,RepR.mono hM hA r _ _ _ h3⟩
theorem RepL.mono{T:Ar}{M M':AT}{A A':AV}(hM:DD M M')(hA:Fb A A'):∀(l:List (List CV)) (e b o j:Nat),RepL T M A l e b o j->RepL T M' A' l e b o j
 |[],e,b,o,j,_=>by simp only[RepL]
 |r::l,e,b,o,j,h=>by
  simp only[RepL]at h⊢;exact⟨RepR.mono hM hA r _ _ _ h.1,h.2.1,RepL.mono hM hA l _ _ _ _ h.2.2⟩
end
theorem RepL.get{T:Ar}{M:AT}{A:AV}:∀{l:List (List CV)}{e b o j:Nat},RepL T M A l e b o j->∀{i:Nat}{r:List CV},l[i]? =some r->
 RepR T M A r (T e).cells b (o+i*(T e).cells.length)/\InvR T e r (j+i)
 |r::l,e,b,o,j,h,0,u,hi=>by
  simp only[RepL]at h;simp at hi;subst hi;simpa using⟨h.1,h.2.1⟩
 |r::l,e,b,o,j,h,i+1,u,hi=>by
  simp only[RepL]at h;simp at hi;have:=RepL.get h.2.2 hi;rw[show o+(T e).cells.length+i*(T e).cells.length=o+(i+1)*(T e).cells.length from by rw[Dq];omega,show j+1+i=j+(i+1)from by omega]at this;exact this
def Kq(l:List LE):Bool:=l.all λf=>f.l.all λp=>!(Nat.beq p.1 1000)
theorem Zk{ρ ρ':Nat->Int}(hρ:∀i,i≠1000->ρ i=ρ' i):∀{l:List (Nat×Int)},(l.all λp=>!(Nat.beq p.1 1000))=true->C5 ρ l=C5 ρ' l
 |[],_=>rfl
 |(i,c)::l,h=>by
  simp only[EJ,Aq,JF]at h;have:i≠1000:=λe=>by subst e;simp at h
  simp only[C5,hρ i this,Zk hρ h.2]
variable{j:Nat}{T:Ar}
theorem InvR.place{e:Nat}(hi:Kq (T e).inv=true){r:List CV}{j':Nat}(h:InvR T e r j):InvR T e r j':=by
 intro f hf;have:=h f hf;simp only[Kq,Bg]at hi;have hf':=hi f hf;simp only[LE.ev]at this⊢;rw[Zk (ρ:=λi=>if i=1000 then(j:Int)else((r[i]?).map CV.n).getD 0) (ρ':=λi=>if i=1000 then(j':Int)else((r[i]?).map CV.n).getD 0) (λi hi=>by simp[hi]) (by simpa only[Bg]using hf')]at this;exact this
theorem RepL.drop{T:Ar}{M:AT}{A:AV}{e:Nat}(hi:Kq (T e).inv=true):∀{l:List (List CV)}{b o j:Nat},RepL T M A l e b o j->∀(i j':Nat),RepL T M A (l.drop i) e b (o+i*(T e).cells.length) j'
 |[],b,o,j,h,i,j'=>by simp only[List.drop_nil,RepL]
 |r::l,b,o,j,h,0,j'=>by
  simp only[RepL]at h;simp only[FI,RepL,Mo,Hf];refine⟨h.1,h.2.1.place hi,?_⟩;have:=RepL.drop hi h.2.2 0 (j'+1);simpa using this
 |r::l,b,o,j,h,i+1,j'=>by
  simp only[RepL]at h;have:=RepL.drop hi h.2.2 i j';rwa[show o+(T e).cells.length+i*(T e).cells.length=o+(i+1)*(T e).cells.length from by rw[Dq];omega]at this
theorem RepL.take{T:Ar}{M:AT}{A:AV}{e:Nat}:∀{l:List (List CV)}{b o j:Nat},RepL T M A l e b o j->∀(i:Nat),RepL T M A (l.take i) e b o j
 |[],b,o,j,h,i=>by simp only[List.take_nil,RepL]
 |r::l,b,o,j,h,0=>by simp only[HQ,RepL]
 |r::l,b,o,j,h,i+1=>by
  simp only[RepL]at h;simp only[JH,RepL];exact⟨h.1,h.2.1,RepL.take h.2.2 i⟩
theorem RepL.append{T:Ar}{M:AT}{A:AV}{e:Nat}:∀{l:List (List CV)}{b o j:Nat}{k:List (List CV)},RepL T M A l e b o j->RepL T M A k e b (o+l.length*(T e).cells.length) (j+l.length)->RepL T M A (l++k) e b o j
 |[],b,o,j,k,_,h=>by simpa using h
 |r::l,b,o,j,k,h1,h2=>by
  simp only[RepL]at h1;simp only[CL,RepL];refine⟨h1.1,h1.2.1,RepL.append h1.2.2 ?_⟩;simp only[Cg]at h2;rwa[show o+(T e).cells.length+l.length*(T e).cells.length=o+(l.length+1)*(T e).cells.length from by rw[Dq];omega,show j+1+l.length=j+(l.length+1)from by omega]
variable{M:AT}
theorem RepC.one{c:CV}{t:CT}(h:RepC T M A c t x):x.oneCell'=true:=by
 cases c<;>cases t<;>simp only[RepC]at h
 ·rw[h.1];rfl
 ·rw[h];rfl
 ·rw[h.1];rfl
 ·obtain⟨a,cap,rfl,_⟩:=h;rfl
 ·obtain⟨a,cap,rfl,_⟩:=h;rfl
 ·rw[h];rfl
 ·obtain⟨b,o,rfl,_⟩:=h;rfl
 ·rw[h.1];rfl
theorem Ko(T:Ar)(e:Nat)(l:List (List CV))(i:Nat):Az T (l.take i) e<=Az T l e:=by
 have h:=Ju T e (l.take i) (l.drop i);rw[IG]at h;have:=EE T (l.drop i) e;omega
variable{i:Nat}{l:List (List CV)}
theorem Qp(T:Ar)(e:Nat){r:List CV}(h:l[i]? =some r):
 Az T (l.take (i+1)) e=Az T (l.take i) e+((T e).base+CP T r (T e).cells):=by
 have:l.take (i+1)=l.take i++[r]:=by
  rw[KE,h];simp
 rw[this,Ju];simp[Az]
def DM(ss:List ByteArray):List (List CV):=ss.map λs=>[.str s]
def tagS:ByteArray:=⟨#[91]⟩
def Aab:List CV->Bool
 | .int n:: .str s::_=>decide (n=3)&&decide (s=tagS)
 |_=>false
def K2(T:Ar)(e:Nat):Option (List CV)->Int
 |some r=>match Aab r with
  |true=>min 1 (Az T [r] e)
  |false=>0
 |none=>0
def EI:Nat:=18446744073709551616
def pw(T:Ar)(l:List (List CV))(e j:Nat):Int:=if j<EI then Az T (l.take j) e else K2 T e l[j-EI]?
theorem EG{e:Nat}(h:j<EI):pw T l e j=Az T (l.take j) e:=by unfold pw;rw[if_pos h]
theorem Nv:maxLen<EI:=by decide
theorem Aau(T:Ar)(e:Nat){r:List CV}(h:l[i]? =some r):Az T [r] e<=Az T l e:=by
 have h1:=Qp T e h;have h2:=Ko T e l (i+1);have h3:=EE T (l.take i) e;simp only[Az];omega
theorem Au4(T:Ar)(e:Nat)(r:Option (List CV)):0<=K2 T e r:=by
 unfold K2;split
 ·rename_i r;have:=EE T [r] e;split<;>omega
 ·omega
theorem Asv(T:Ar)(l:List (List CV))(e j:Nat):0<=pw T l e j:=by
 unfold pw;split
 ·exact EE _ _ _
 ·exact Au4 _ _ _
theorem Ast(T:Ar)(l:List (List CV))(e j:Nat):pw T l e j<=Az T l e:=by
 have h0:=EE T l e;unfold pw;split
 ·exact Ko _ _ _ _
 ·unfold K2;split
  ·rename_i r hr;have:=Aau T e hr;split<;>omega
  ·exact h0
theorem Asu(T:Ar)(e j:Nat):pw T [] e j=0:=by
 unfold pw;split
 ·simp[Az]
 ·simp[K2]
theorem Abq{e e':Nat}(h:∀l,Az T l e=Az T l e')(l:List (List CV))(j:Nat):pw T l e j=pw T l e' j:=by
 unfold pw K2;split
 ·exact h _
 ·split
  ·rw[h]
  ·rfl
theorem YO(T:Ar)(e:Nat):∀{l:List (List CV)}{i:Nat}{r:List CV},l[i]? =some r->(T e).deep+EC T r (T e).cells<=Bi T l e
 |r::l,0,u,h=>by simp at h;subst h;simp only[Bi];omega
 |r::l,i+1,u,h=>by
  simp at h;have:=YO T e h;simp only[Bi];omega
inductive BE where
 |ge (e:LE)
 |eq (e:LE)
 |ne (e:LE)
 |sq (e:LE)
 |sn (e:LE)
 |kq (e q:LE)
 |kn (e q:LE)
inductive SC where
 |int (k:IntKind) (e:LE)
 |bool (e:LE)
 |cmp (b:BE)
 |str (e:LE)
 |flt (e:LE)
 |fz (e i:Nat) (n m d:LE) (o:Option Nat)
 |nil
 |ar (k:IntKind) (n:LE)
 |pn
 |vp (g o:Nat)
 |fp (r o:Nat)
 |ap (k:IntKind)
 |pt (e:Nat) (m d:LE)
 |un
 |sk
 |lit (e:Nat) (ss:List ByteArray) (n m d:Int)
 |kd (e q:LE)
inductive EV where
 |sc (c:SC)
 |agg (l:List SC)
 |tup (l:List (Bool×List SC))
structure St where
 env:List (Nat×EV)
 mem:List (Nat×Nat×List SC)
 own:List (Nat×Nat×Nat×LE)
 rows:List (Nat×List SC)
 pres:List (Nat×LE×Nat)
 rix:List (Nat×LE×Nat)
 facts:List LE
 maxs:List (Nat×List LE)
 next:Nat
structure LV where
 e:Nat
 l:List (List CV)
 b:Nat
 o:Nat
structure Val where
 ρ:Nat->Int
 δ:Nat->LV
 β:Nat->Option Nat
 κ:Nat->Nat×Nat
 M:AT
 A:AV
def BE.rel(ρ:Nat->Int):BE->Bool->Prop
 | .ge e,b=>b=true↔0<=e.ev ρ
 | .eq e,b=>b=true↔e.ev ρ=0
 | .ne e,b=>b=false↔e.ev ρ=0
 | .sq e,b=>b=true->e.ev ρ=0
 | .sn e,b=>b=false->e.ev ρ=0
 | .kq e q,b=>(b=true->e.ev ρ=0/\q.ev ρ=0)/\(b=false->e.ev ρ≠0)
 | .kn e q,b=>(b=false->e.ev ρ=0/\q.ev ρ=0)/\(b=true->e.ev ρ≠0)
def RK(β:Option Nat)(cap:Nat)(x:Value):Prop:=match β with
 |none=>x= .slice none 0 0
 |some b=>∃n,x= .slice (some ⟨b,0,none⟩) n cap
def ListAt(T:Ar)(M:AT)(A:AV)(u:LV)(x:Value):Prop:=
 ∃a cap,x= .slice a u.l.length cap/\u.l.length<=maxLen/\(u.l=[]\/a=some ⟨u.b,u.o,none⟩/\u.l.length<=cap/\cap<=maxLen/\RepL T M A u.l u.e u.b u.o 0)
def DC(T:Ar)(v:Val):SC->Value->Prop
 | .int k e,x=>x= .int k (e.ev v.ρ)/\Bs k (e.ev v.ρ)
 | .bool e,x=>(e.ev v.ρ=0\/e.ev v.ρ=1)/\x= .bool (decide (e.ev v.ρ=1))
 | .cmp b,x=>∃t,x= .bool t/\b.rel v.ρ t
 | .str e,x=>∃s,x= .string s/\(s.size:Int)=e.ev v.ρ/\s.size<=maxLen
 | .flt e,x=>x= .float .f64 (e.ev v.ρ).toNat/\Bs .u64 (e.ev v.ρ)
 | .fz e i n m d o,x=>(v.δ i).e=e/\ListAt T v.M v.A (v.δ i) x/\n.ev v.ρ=(v.δ i).l.length/\m.ev v.ρ=Az T (v.δ i).l e/\d.ev v.ρ=Bi T (v.δ i).l e/\
  ∀g,o=some g->RK (v.β g) (v.κ g).1 x
 | .nil,x=>x= .slice none 0 0
 | .ar k n,x=>∃j:Nat,n.ev v.ρ=j/\ArV v.A k j x
 | .pn,x=>x= .pointer none
 | .vp g o,x=>∃b,v.β g=some b/\x= .pointer (some ⟨b,o,none⟩)
 | .fp r o,x=>x= .pointer (some ⟨(v.κ r).1,(v.κ r).2+o,none⟩)
 | .ap k,x=>∃b o sz,x= .pointer (some ⟨b,o,none⟩)/\v.A b=some (k,sz)/\o<sz
 | .pt e m d,x=>∃c,RepC T v.M v.A c (.pt e 0 0) x/\m.ev v.ρ=Bl T c (.pt e 0 0)/\d.ev v.ρ=Df T c (.pt e 0 0)
 | .un,x=>x.oneCell'=true
 | .sk,x=>x= .string tagS
 | .lit e ss n m d,x=>(∃b o,ListAt T v.M v.A ⟨e,DM ss,b,o⟩ x)/\n=ss.length/\m=Az T (DM ss) e/\d=Bi T (DM ss) e
 | .kd e q,x=>x= .int .i64 (e.ev v.ρ)/\Bs .i64 (e.ev v.ρ)/\q.ev v.ρ=DY (e.ev v.ρ)
def All2{α β:Type}(R:α->β->Prop):List α->List β->Prop
 |[],[]=>True
 |a::l,b::k=>R a b/\All2 R l k
 |_,_=>False
def DP(T:Ar)(v:Val)(p:Bool×List SC)(x:Value):Prop:=match p.1 with
 |true=>∃cs:List Value,x= .agg cs.toArray/\All2 (DC T v) p.2 cs
 |false=>∃c,p.2=[c]/\DC T v c x
def DE(T:Ar)(v:Val):EV->Value->Prop
 | .sc c,x=>DC T v c x
 | .agg l,x=>∃cs:List Value,x= .agg cs.toArray/\All2 (DC T v) l cs
 | .tup l,x=>∃xs:List Value,x= .tuple xs.toArray/\All2 (DP T v) l xs
def BE.ok(k:Nat):BE->Bool
 | .ge e| .eq e| .ne e| .sq e| .sn e=>e.ok k
 | .kq e q| .kn e q=>e.ok k&&q.ok k
def Iw(k:Nat):Option Nat->Bool
 |none=>true
 |some g=>Nat.blt g k
def SC.ok(k:Nat):SC->Bool
 | .int _ e=>e.ok k
 | .bool e=>e.ok k
 | .cmp b=>b.ok k
 | .str e=>e.ok k
 | .flt e=>e.ok k
 | .fz _ i n m d o=>Nat.blt i k&&n.ok k&&m.ok k&&d.ok k&&Iw k o
 | .nil=>true
 | .ar _ n=>n.ok k
 | .pn=>true
 | .vp g _=>Nat.blt g k
 | .fp r _=>Nat.blt r k
 | .ap _=>true
 | .pt _ m d=>m.ok k&&d.ok k
 | .un=>true
 | .sk=>true
 | .lit _ _ _ _ _=>true
 | .kd e q=>e.ok k&&q.ok k
def EV.ok(k:Nat):EV->Bool
 | .sc c=>c.ok k
 | .agg l=>l.all (SC.ok k)
 | .tup l=>l.all λp=>p.2.all (SC.ok k)
structure Ext(k:Nat)(v v':Val):Prop where
 ρ:∀i,i<k->v'.ρ i=v.ρ i
 δ:∀i,i<k->v'.δ i=v.δ i
 β:∀i,i<k->v'.β i=v.β i
 κ:∀i,i<k->v'.κ i=v.κ i
 M:DD v.M v'.M
 A:Fb v.A v'.A
theorem Ext.refl(k:Nat)(v:Val):Ext k v v:=⟨λ_ _=>rfl,λ_ _=>rfl,λ_ _=>rfl,λ_ _=>rfl,λ_ _ _ h=>h,λ_ _ h=>h⟩
variable{v' v:Val}
theorem Ext.trans{k:Nat}{v'':Val}(h:Ext k v v')(g:Ext k' v' v'')(hk:k<=k'):Ext k v v'':=
 ⟨λi hi=>(g.ρ i (by omega)).trans (h.ρ i hi),λi hi=>(g.δ i (by omega)).trans (h.δ i hi),λi hi=>(g.β i (by omega)).trans (h.β i hi),λi hi=>(g.κ i (by omega)).trans (h.κ i hi),
  λ_ _ _ hx=>g.M _ _ _ (h.M _ _ _ hx),λ_ _ hx=>g.A _ _ (h.A _ _ hx)⟩
theorem Ext.mono{k:Nat}(h:Ext k' v v')(hk:k<=k'):Ext k v v':=(Ext.refl k v).trans h hk
section
variable{T:Ar}{k k':Nat}{v v':Val}
variable{b:BE}
theorem Ady(h:Ext k v v'){t:Bool}(hk:b.ok k=true):b.rel v'.ρ t↔b.rel v.ρ t:=by
 cases b<;>simp only[BE.rel,BE.ok,Aq]at hk⊢<;>first|rw[Bj h.ρ hk]|rw[Bj h.ρ hk.1,Bj h.ρ hk.2]
theorem ListAt.mono{M':AT}{A':AV}(hM:DD M M')(hA:Fb A A'){u:LV}(h:ListAt T M A u x):ListAt T M' A' u x:=by
 obtain⟨a,cap,h1,h2,h3⟩:=h;exact⟨a,cap,h1,h2,h3.imp id λ⟨h4,h5,h6,h7⟩=>⟨h4,h5,h6,RepL.mono hM hA _ _ _ _ _ h7⟩⟩
theorem DC.ext(h:Ext k v v'):∀{c:SC}{x:Value},c.ok k=true->DC T v c x->DC T v' c x:=by
 intro c x hk hc;cases c<;>simp only[SC.ok,Aq,A_]at hk<;>simp only[DC]at hc⊢
 case int=>rw[Bj h.ρ hk];exact hc
 case bool=>rw[Bj h.ρ hk];exact hc
 case cmp b=>obtain⟨t,h1,h2⟩:=hc;exact⟨t,h1,(Ady h hk).2 h2⟩
 case str=>rw[Bj h.ρ hk];exact hc
 case flt=>rw[Bj h.ρ hk];exact hc
 case fz e i n m d o=>
  obtain⟨⟨⟨⟨hi,hn⟩,hm⟩,hd⟩,ho⟩:=hk;rw[h.δ i hi,Bj h.ρ hn,Bj h.ρ hm,Bj h.ρ hd];obtain⟨h1,h2,h3,h4,h5,h6⟩:=hc;refine⟨h1,ListAt.mono h.M h.A h2,h3,h4,h5,?_⟩;intro g hg;subst hg;rw[h.β g (by simpa[Iw]using ho),h.κ g (by simpa[Iw]using ho)];exact h6 g V
 case nil=>exact hc
 case ar=>
  rw[Bj h.ρ hk];obtain⟨j,h1,h2⟩:=hc;exact⟨j,h1,h2.mono h.A⟩
 case pn=>exact hc
 case vp g o=>rw[h.β g hk];exact hc
 case fp r o=>rw[h.κ r hk];exact hc
 case ap=>
  obtain⟨b,o,sz,h1,h2,h3⟩:=hc;exact⟨b,o,sz,h1,h.A _ _ h2,h3⟩
 case pt=>
  rw[Bj h.ρ hk.1,Bj h.ρ hk.2];obtain⟨c,h1,h2⟩:=hc;exact⟨c,RepC.mono h.M h.A _ _ _ h1,h2⟩
 case un=>exact hc
 case sk=>exact hc
 case lit=>obtain⟨⟨b,o,h1⟩,h2⟩:=hc;exact⟨⟨b,o,h1.mono h.M h.A⟩,h2⟩
 case kd=>rw[Bj h.ρ hk.1,Bj h.ρ hk.2];exact hc
theorem DC.one:∀{c:SC}{x:Value},DC T v c x->x.oneCell'=true:=by
 intro c x hc;cases c<;>simp only[DC]at hc
 case int=>rw[hc.1];rfl
 case bool=>rw[hc.2];rfl
 case cmp=>obtain⟨t,rfl,_⟩:=hc;rfl
 case str=>obtain⟨t,rfl,_⟩:=hc;rfl
 case flt=>rw[hc.1];rfl
 case fz=>obtain⟨_,⟨a,cap,rfl,_⟩,_⟩:=hc;rfl
 case nil=>rw[hc];rfl
 case ar=>obtain⟨j,_,a,cap,rfl,_⟩:=hc;rfl
 case pn=>rw[hc];rfl
 case vp=>obtain⟨b,_,rfl⟩:=hc;rfl
 case fp=>rw[hc];rfl
 case ap=>obtain⟨b,o,sz,rfl,_⟩:=hc;rfl
 case pt=>obtain⟨c,h1,_⟩:=hc;exact h1.one
 case un=>exact hc
 case sk=>rw[hc];rfl
 case lit=>obtain⟨⟨_,_,a,cap,rfl,_⟩,_⟩:=hc;rfl
 case kd=>rw[hc.1];rfl
theorem All2.imp{α β:Type}{R R':α->β->Prop}:∀{l:List α}{m:List β},All2 R l m->(∀a∈l,∀b,R a b->R' a b)->All2 R' l m
 |[],[],_,_=>trivial
 |a::l,b::m,h,hi=>⟨hi a (by simp) b h.1,All2.imp h.2 λx hx=>hi x (by simp[hx])⟩
 |[],_::_,h,_=>h.elim
 |_::_,[],h,_=>h.elim
theorem DCs.ext(h:Ext k v v'){l:List SC}{cs:List Value}(hk:l.all (SC.ok k)=true)(hc:All2 (DC T v) l cs):All2 (DC T v') l cs:=
 All2.imp hc λa ha b hb=>DC.ext h (by simp only[Bg]at hk;exact hk a ha) hb
theorem DE.ext(h:Ext k v v'){e:EV}(hk:e.ok k=true)(hc:DE T v e x):DE T v' e x:=by
 cases e with
 |sc c=>exact DC.ext h hk hc
 |agg l=>obtain⟨cs,h1,h2⟩:=hc;exact⟨cs,h1,DCs.ext h hk h2⟩
 |tup l=>
  obtain⟨xs,h1,h2⟩:=hc;simp only[EV.ok,Bg]at hk;refine⟨xs,h1,All2.imp h2 λp hp x hx=>?_⟩;unfold DP at hx⊢;split
  ·rename_i hb;rw[hb]at hx;obtain⟨cs,h3,h4⟩:=hx;exact⟨cs,h3,DCs.ext h (by simpa using hk p hp) h4⟩
  ·rename_i hb;rw[hb]at hx;obtain⟨c,h3,h4⟩:=hx;refine⟨c,h3,DC.ext h ?_ h4⟩;have:=hk p hp c (by simp[h3]);exact this
theorem BE.ok_mono(hk:k<=k')(h:b.ok k=true):b.ok k'=true:=by
 cases b<;>simp only[BE.ok,Aq]at h⊢<;>first|exact LE.ok_mono hk h|exact⟨LE.ok_mono hk h.1,LE.ok_mono hk h.2⟩
theorem SC.ok_mono(hk:k<=k'){c:SC}(h:c.ok k=true):c.ok k'=true:=by
 cases c<;>simp only[SC.ok,Aq,A_]at h⊢
 case int=>exact LE.ok_mono hk h
 case bool=>exact LE.ok_mono hk h
 case cmp=>exact BE.ok_mono hk h
 case str=>exact LE.ok_mono hk h
 case flt=>exact LE.ok_mono hk h
 case fz e i n m d o=>
  obtain⟨⟨⟨⟨hi,hn⟩,hm⟩,hd⟩,ho⟩:=h;refine⟨⟨⟨⟨by omega,LE.ok_mono hk hn⟩,LE.ok_mono hk hm⟩,LE.ok_mono hk hd⟩,?_⟩;cases o with
  |none=>rfl
  |some g=>simp only[Iw,A_]at ho⊢;omega
 case ar=>exact LE.ok_mono hk h
 case vp=>omega
 case fp=>omega
 case pt=>exact⟨LE.ok_mono hk h.1,LE.ok_mono hk h.2⟩
 case kd=>exact⟨LE.ok_mono hk h.1,LE.ok_mono hk h.2⟩
theorem SCs.ok_mono(hk:k<=k'){l:List SC}(h:l.all (SC.ok k)=true):l.all (SC.ok k')=true:=by
 simp only[Bg]at h⊢;exactλc hc=>SC.ok_mono hk (h c hc)
theorem EV.ok_mono(hk:k<=k'){e:EV}(h:e.ok k=true):e.ok k'=true:=by
 cases e with
 |sc c=>exact SC.ok_mono hk h
 |agg l=>exact SCs.ok_mono hk h
 |tup l=>
  simp only[EV.ok,Bg]at h⊢;exactλp hp c hc=>SC.ok_mono hk (h p hp c hc)
end
variable{α:Type}
def get(l:List (Nat×α))(j:Nat):Option α:=List.rec (motive:=λ_=>Option α) none (λp _ ih=>Bool.rec ih (some p.2) (Nat.beq p.1 j)) l
theorem get_nil(j:Nat):get ([]:List (Nat×α)) j=none:=rfl
theorem get_cons(i:Nat)(x:α)(r:List (Nat×α))(j:Nat):get ((i,x)::r) j=(match Nat.beq i j with|true=>some x|false=>get r j):=by
 show Bool.rec (motive:=λ_=>Option α) (get r j) (some x) (Nat.beq i j)=_;cases Nat.beq i j<;>rfl
theorem Eh{α:Type}:∀{l:List (Nat×α)}{j:Nat}{x:α},get l j=some x->(j,x)∈l
 |(i,y)::r,j,x,h=>by
  simp only[get_cons]at h;split at h
  ·rename_i hb;cases h;rw[AH hb];exact E4
  ·exact Ft _ (Eh h)
structure Cx where
 v0:Val
 w0:World
 k0:Nat
 B:Nat->Prop
structure Fra(X:Cx)(v:Val)(w:World):Prop where
 os:w.os=X.w0.os
 tape:w.tape=X.w0.tape
 output:w.output=X.w0.output
 size:X.w0.heap.size<=w.heap.size
 blk:∀b,b<X.w0.heap.size->¬X.B b->X.v0.A b=none->w.heap[b]? =X.w0.heap[b]?
 M:∀b o x,v.M b o=some x->X.v0.M b o=some x\/X.B b\/X.w0.heap.size<=b
 A:∀b x,v.A b=some x->X.v0.A b=some x\/X.w0.heap.size<=b
def LU(w:World)(b:Nat)(k:IntKind)(sz:Nat):Prop:=
 ∃(c:List Value) (t:Nat),w.heap[b]? =some (.cells c.toArray t (0,0))/\c.length=sz/\∀x∈c,∃n,x= .int k n/\Bs k n
section
variable(T:Ar)(X:Cx)(v:Val)(w:World)
def MemOK(p:Nat×Nat×List SC):Prop:=
 ∃b cs,v.β p.1=some b/\Blk w b cs p.2.1/\All2 (DC T v) p.2.2 cs/\(∀c∈cs,c.oneCell'=true)/\(∀o,v.M b o=none)/\v.A b=none/\(X.B b\/X.w0.heap.size<=b)
def OwnOK(p:Nat×Nat×Nat×LE):Prop:=
 v.β p.1=none\/∃b cs,v.β p.1=some b/\Blk w b cs p.2.1/\cs.length=(v.κ p.1).1*(T p.2.2.1).cells.length/\p.2.2.2.ev v.ρ<=(v.κ p.1).1/\(v.κ p.1).1<=maxLen/\
  (∀o x,v.M b o=some x->(o:Int)<p.2.2.2.ev v.ρ*(T p.2.2.1).cells.length)/\v.A b=none/\(X.B b\/X.w0.heap.size<=b)
def RowOK(p:Nat×List SC):Prop:=∃cs,All2 (DC T v) p.2 cs/\∀j x,cs[j]? =some x->v.M (v.κ p.1).1 ((v.κ p.1).2+j)=some x
def PreOK(p:Nat×LE×Nat):Prop:=∃j:Nat,p.2.1.ev v.ρ=j/\v.ρ p.2.2=pw T (v.δ p.1).l (v.δ p.1).e j
def MaxOK(p:Nat×List LE):Prop:=v.ρ p.1<=0\/∃e∈p.2,v.ρ p.1<=e.ev v.ρ
def RixOK(p:Nat×LE×Nat):Prop:=∃j:Nat,p.2.1.ev v.ρ=j/\v.κ p.2.2=((v.δ p.1).b,(v.δ p.1).o+j*(T (v.δ p.1).e).cells.length)
end
def C6(k:Nat)(p:Nat×Nat×List SC):Bool:=Nat.blt p.1 k&&p.2.2.all (SC.ok k)
def DA(k:Nat)(p:Nat×Nat×Nat×LE):Bool:=Nat.blt p.1 k&&p.2.2.2.ok k
def J1(k:Nat)(p:Nat×List SC):Bool:=Nat.blt p.1 k&&p.2.all (SC.ok k)
def El(k:Nat)(p:Nat×LE×Nat):Bool:=Nat.blt p.1 k&&p.2.1.ok k&&Nat.blt p.2.2 k
def Gy(k:Nat)(p:Nat×List LE):Bool:=Nat.blt p.1 k&&p.2.all (LE.ok k)
structure Hp(T:Ar)(X:Cx)(v:Val)(st:St)(w:World):Prop where
 fra:Fra X v w
 ext:Ext X.k0 X.v0 v
 kk:X.k0<=st.next
 hM:∀b o x,v.M b o=some x->w.cell? ⟨b,o,none⟩=some x/\v.A b=none/\x.oneCell'=true
 hA:∀b k sz,v.A b=some (k,sz)->LU w b k sz
 mem:∀p∈st.mem,MemOK T X v w p/\C6 st.next p=true
 own:∀p∈st.own,OwnOK T X v w p/\DA st.next p=true
 rows:∀p∈st.rows,RowOK T v p/\J1 st.next p=true
 pres:∀p∈st.pres,PreOK T v p/\El st.next p=true
 rix:∀p∈st.rix,RixOK T v p/\El st.next p=true
 maxs:∀p∈st.maxs,MaxOK v p/\Gy st.next p=true
 facts:Holds v.ρ st.facts
 okf:∀f∈st.facts,f.ok st.next=true
 memU:∀p∈st.mem,∀q∈st.mem,∀b,v.β p.1=some b->v.β q.1=some b->p.1=q.1
 ownU:∀p∈st.own,∀q∈st.own,∀b,v.β p.1=some b->v.β q.1=some b->p.1=q.1
 moU:∀p∈st.mem,∀q∈st.own,∀b,v.β p.1=some b->v.β q.1≠some b
structure Den(T:Ar)(X:Cx)(nt:Nat)(v:Val)(st:St)(a:Act)(w:World):Prop where
 size:a.tmps.size=nt
 defers:a.defers=[]
 env:∀i e,get st.env i=some e->∃x,a.tmps[i]? =some x/\DE T v e x/\e.ok st.next=true
 hp:Hp T X v st w
section
variable{T:Ar}{X:Cx}{k k':Nat}{v v':Val}{w w':World}
theorem N5(h:k<=k'){p:Nat×Nat×List SC}(hp:C6 k p=true):C6 k' p=true:=by
 simp only[C6,Aq,A_]at hp⊢;exact⟨by omega,SCs.ok_mono h hp.2⟩
theorem Ks(h:k<=k'){p:Nat×Nat×Nat×LE}(hp:DA k p=true):DA k' p=true:=by
 simp only[DA,Aq,A_]at hp⊢;exact⟨by omega,LE.ok_mono h hp.2⟩
theorem VV(h:k<=k'){p:Nat×List SC}(hp:J1 k p=true):J1 k' p=true:=by
 simp only[J1,Aq,A_]at hp⊢;exact⟨by omega,SCs.ok_mono h hp.2⟩
variable{p:Nat×LE×Nat}
theorem L2(h:k<=k')(hp:El k p=true):El k' p=true:=by
 simp only[El,Aq,A_]at hp⊢;exact⟨⟨by omega,LE.ok_mono h hp.1.2⟩,by omega⟩
theorem VU(h:k<=k'){p:Nat×List LE}(hp:Gy k p=true):Gy k' p=true:=by
 simp only[Gy,Aq,A_,Bg]at hp⊢;exact⟨by omega,λe he=>LE.ok_mono h (hp.2 e he)⟩
theorem MemOK.keep(h:Ext k v v'){p:Nat×Nat×List SC}(ho:C6 k p=true)(hm:MemOK T X v w p)
 (hb:∀b,v.β p.1=some b->w'.heap[b]? =w.heap[b]? /\(∀o,v'.M b o=none)/\v'.A b=none):MemOK T X v' w' p:=by
 obtain⟨b,cs,h1,h2,h3,h4,h5,h6,h7⟩:=hm;simp only[C6,Aq,A_]at ho;obtain⟨e1,e2,e3⟩:=hb b h1;exact⟨b,cs,(h.β _ ho.1).trans h1,e1.trans h2,DCs.ext h ho.2 h3,h4,e2,e3,h7⟩
theorem OwnOK.keep(h:Ext k v v'){p:Nat×Nat×Nat×LE}(ho:DA k p=true)(hm:OwnOK T X v w p)
 (hb:∀b,v.β p.1=some b->w'.heap[b]? =w.heap[b]? /\(∀o x,v'.M b o=some x->v.M b o=some x)/\v'.A b=none):OwnOK T X v' w' p:=by
 simp only[DA,Aq,A_]at ho;rcases hm with h1|⟨b,cs,h1,h2,h3,h4,h5,h6,h7,h8⟩
 ·exact .inl ((h.β _ ho.1).trans h1)
 ·obtain⟨e1,e2,e3⟩:=hb b h1;have hk:=h.κ _ ho.1;refine .inr ⟨b,cs,(h.β _ ho.1).trans h1,e1.trans h2,by rw[hk];exact h3,by rw[Bj h.ρ ho.2,hk];exact h4,by rw[hk];exact h5,?_,e3,h8⟩;intro o x hx;rw[Bj h.ρ ho.2];exact h6 o x (e2 o x hx)
theorem RowOK.keep(h:Ext k v v'){p:Nat×List SC}(ho:J1 k p=true)(hm:RowOK T v p):RowOK T v' p:=by
 simp only[J1,Aq,A_]at ho;obtain⟨cs,h1,h2⟩:=hm;refine⟨cs,DCs.ext h ho.2 h1,λj x hx=>?_⟩;rw[h.κ _ ho.1];exact h.M _ _ _ (h2 j x hx)
theorem PreOK.keep(h:Ext k v v')(ho:El k p=true)(hm:PreOK T v p):PreOK T v' p:=by
 simp only[El,Aq,A_]at ho;obtain⟨j,h1,h2⟩:=hm;exact⟨j,by rw[Bj h.ρ ho.1.2];exact h1,by rw[h.ρ _ ho.2,h.δ _ ho.1.1];exact h2⟩
theorem RixOK.keep(h:Ext k v v')(ho:El k p=true)(hm:RixOK T v p):RixOK T v' p:=by
 simp only[El,Aq,A_]at ho;obtain⟨j,h1,h2⟩:=hm;exact⟨j,by rw[Bj h.ρ ho.1.2];exact h1,by rw[h.κ _ ho.2,h.δ _ ho.1.1];exact h2⟩
theorem MaxOK.keep(h:Ext k v v'){p:Nat×List LE}(ho:Gy k p=true)(hm:MaxOK v p):MaxOK v' p:=by
 simp only[Gy,Aq,A_,Bg]at ho;unfold MaxOK;rw[h.ρ _ ho.1];rcases hm with hm|⟨e,h1,h2⟩
 ·exact .inl hm
 ·exact .inr ⟨e,h1,by rw[Bj h.ρ (ho.2 e h1)];exact h2⟩
theorem Holds.ext(h:Ext k v v')(ho:∀f∈fs,f.ok k=true)(hf:Holds v.ρ fs):Holds v'.ρ fs:=λf hm=>by
 rw[Bj h.ρ (ho f hm)];exact hf f hm
variable{st:St}
theorem Hp.pure(hp:Hp T X v st w)(h:Ext st.next v v')(hM:v'.M=v.M)(hA:v'.A=v.A)(fs:List LE)(rs:List (Nat×List SC))(ps rx:List (Nat×LE×Nat))(nx:Nat)(hn:st.next<=nx)
 (hf:Holds v'.ρ fs) (hfo:∀f∈fs,f.ok nx=true) (hr:∀p∈rs,RowOK T v' p/\J1 nx p=true) (hps:∀p∈ps,PreOK T v' p/\El nx p=true) (hrx:∀p∈rx,RixOK T v' p/\El nx p=true):
 Hp T X v' {st with facts:=fs++st.facts,rows:=rs++st.rows,pres:=ps++st.pres,rix:=rx++st.rix,next:=nx} w where
 fra:=⟨hp.fra.os,hp.fra.tape,hp.fra.output,hp.fra.size,hp.fra.blk,by rw[hM];exact hp.fra.M,by rw[hA];exact hp.fra.A⟩
 ext:=hp.ext.trans h hp.kk
 kk:=AX hp.kk hn
 hM:=by rw[hM,hA];exact hp.hM
 hA:=by rw[hA];exact hp.hA
 mem:=λp hm=>⟨(hp.mem p hm).1.keep h (hp.mem p hm).2 (λb hb=>⟨rfl,by
  obtain⟨b',cs,h1,_,_,_,h5,h6,_⟩:=(hp.mem p hm).1;rw[h1]at hb;cases hb;rw[hM,hA];exact⟨h5,h6⟩⟩),N5 hn (hp.mem p hm).2⟩
 own:=λp hm=>⟨(hp.own p hm).1.keep h (hp.own p hm).2 (λb hb=>⟨rfl,by
  rcases(hp.own p hm).1 with h1|⟨b',cs,h1,_,_,_,_,_,h7,_⟩
  ·rw[h1]at hb;cases hb
  ·rw[h1]at hb;cases hb;rw[hM,hA];exact⟨λ_ _ hx=>hx,h7⟩⟩),Ks hn (hp.own p hm).2⟩
 rows:=λp hm=>by
  rcases B3.1 hm with hm|hm
  ·exact hr p hm
  ·exact⟨(hp.rows p hm).1.keep h (hp.rows p hm).2,VV hn (hp.rows p hm).2⟩
 pres:=λp hm=>by
  rcases B3.1 hm with hm|hm
  ·exact hps p hm
  ·exact⟨(hp.pres p hm).1.keep h (hp.pres p hm).2,L2 hn (hp.pres p hm).2⟩
 rix:=λp hm=>by
  rcases B3.1 hm with hm|hm
  ·exact hrx p hm
  ·exact⟨(hp.rix p hm).1.keep h (hp.rix p hm).2,L2 hn (hp.rix p hm).2⟩
 maxs:=λp hm=>⟨(hp.maxs p hm).1.keep h (hp.maxs p hm).2,VU hn (hp.maxs p hm).2⟩
 facts:=λf hm=>by
  rcases B3.1 hm with hm|hm
  ·exact hf f hm
  ·exact Holds.ext h hp.okf hp.facts f hm
 okf:=λf hm=>by
  rcases B3.1 hm with hm|hm
  ·exact hfo f hm
  ·exact LE.ok_mono hn (hp.okf f hm)
 memU:=λp hm q hq b h1 h2=>by
  have k1:=(hp.mem p hm).2;have k2:=(hp.mem q hq).2;simp only[C6,Aq,A_]at k1 k2;rw[h.β _ k1.1]at h1;rw[h.β _ k2.1]at h2;exact hp.memU p hm q hq b h1 h2
 ownU:=λp hm q hq b h1 h2=>by
  have k1:=(hp.own p hm).2;have k2:=(hp.own q hq).2;simp only[DA,Aq,A_]at k1 k2;rw[h.β _ k1.1]at h1;rw[h.β _ k2.1]at h2;exact hp.ownU p hm q hq b h1 h2
 moU:=λp hm q hq b h1=>by
  have k1:=(hp.mem p hm).2;have k2:=(hp.own q hq).2;simp only[C6,DA,Aq,A_]at k1 k2;rw[h.β _ k1.1]at h1;rw[h.β _ k2.1];exact hp.moU p hm q hq b h1
theorem Hp.step(hp:Hp T X v st w)(h:Ext st.next v v'){nx:Nat}(hn:st.next<=nx)(hf:Holds v'.ρ fs)(hfo:∀f∈fs,f.ok nx=true){ms:List (Nat×List LE)}(hms:∀p∈ms,MaxOK v' p/\Gy nx p=true)
 {mem':List (Nat×Nat×List SC)}{own':List (Nat×Nat×Nat×LE)} (hfra:Fra X v' w') (hM':∀b o x,v'.M b o=some x->w'.cell? ⟨b,o,none⟩=some x/\v'.A b=none/\x.oneCell'=true)
 (hA':∀b k sz,v'.A b=some (k,sz)->LU w' b k sz) (hmem:∀p∈mem',MemOK T X v' w' p/\C6 nx p=true) (hown:∀p∈own',OwnOK T X v' w' p/\DA nx p=true)
 (hmU:∀p∈mem',∀q∈mem',∀b,v'.β p.1=some b->v'.β q.1=some b->p.1=q.1) (hoU:∀p∈own',∀q∈own',∀b,v'.β p.1=some b->v'.β q.1=some b->p.1=q.1)
 (hmo:∀p∈mem',∀q∈own',∀b,v'.β p.1=some b->v'.β q.1≠some b):
 Hp T X v' {st with mem:=mem',own:=own',facts:=fs++st.facts,maxs:=ms++st.maxs,next:=nx} w' where
 fra:=hfra
 ext:=hp.ext.trans h hp.kk
 kk:=AX hp.kk hn
 hM:=hM'
 hA:=hA'
 mem:=hmem
 own:=hown
 rows:=λp hm=>⟨(hp.rows p hm).1.keep h (hp.rows p hm).2,VV hn (hp.rows p hm).2⟩
 pres:=λp hm=>⟨(hp.pres p hm).1.keep h (hp.pres p hm).2,L2 hn (hp.pres p hm).2⟩
 rix:=λp hm=>⟨(hp.rix p hm).1.keep h (hp.rix p hm).2,L2 hn (hp.rix p hm).2⟩
 maxs:=λp hm=>by
  rcases B3.1 hm with hm|hm
  ·exact hms p hm
  ·exact⟨(hp.maxs p hm).1.keep h (hp.maxs p hm).2,VU hn (hp.maxs p hm).2⟩
 facts:=λf hm=>by
  rcases B3.1 hm with hm|hm
  ·exact hf f hm
  ·exact Holds.ext h hp.okf hp.facts f hm
 okf:=λf hm=>by
  rcases B3.1 hm with hm|hm
  ·exact hfo f hm
  ·exact LE.ok_mono hn (hp.okf f hm)
 memU:=hmU
 ownU:=hoU
 moU:=hmo
end
abbrev CD:Nat:=8
structure Res where
 ev:EV
 facts:List LE
 rows:List (Nat×List SC)
 pres:List (Nat×LE×Nat)
 rix:List (Nat×LE×Nat)
 next:Nat
def Res.okb(k:Nat)(r:Res):Bool:=
 Nat.ble k r.next&&r.ev.ok r.next&&r.facts.all (LE.ok r.next)&&r.rows.all (J1 r.next)&&r.pres.all (El r.next)&&r.rix.all (El r.next)
def St.put(st:St)(d:Nat)(r:Res):St:=
 {st with env:=(d,r.ev)::st.env,facts:=r.facts++st.facts,rows:=r.rows++st.rows,pres:=r.pres++st.pres,rix:=r.rix++st.rix,next:=r.next}
structure ResOK(T:Ar)(v:Val)(k:Nat)(r:Res)(x:Value)(v':Val):Prop where
 ext:Ext k v v'
 M:v'.M=v.M
 A:v'.A=v.A
 ev:DE T v' r.ev x
 facts:Holds v'.ρ r.facts
 rows:∀p∈r.rows,RowOK T v' p
 pres:∀p∈r.pres,PreOK T v' p
 rix:∀p∈r.rix,RixOK T v' p
section
variable{T:Ar}{X:Cx}{nt:Nat}{v:Val}{st:St}{a:Act}{w:World}
theorem Hp.env(h:Hp T X v st w)(m:List (Nat×EV)):Hp T X v {st with env:=m} w:=
 ⟨h.fra,h.ext,h.kk,h.hM,h.hA,h.mem,h.own,h.rows,h.pres,h.rix,h.maxs,h.facts,h.okf,h.memU,h.ownU,h.moU⟩
theorem We(hd:d<nt)(h:a.tmps.size=nt)(i:Nat):(a.put (some d) x).tmps[i]? =if d=i then some x else a.tmps[i]? :=by
 simp only[Act.put,Array.getElem?_setIfInBounds];split
 ·rename_i hi;subst hi;simp[h,hd]
 ·rfl
variable{r:Res}
theorem Den.put(h:Den T X nt v st a w)(hr:ResOK T v st.next r x v')(ho:r.okb st.next=true)(hd:Nat.blt d nt=true):
 Den T X nt v' (st.put d r) (a.put (some d) x) w:=by
 simp only[Res.okb,Aq,Bg]at ho;obtain⟨⟨⟨⟨⟨h1,h2⟩,h3⟩,h4⟩,h5⟩,h6⟩:=ho;have h1:=CK h1;have hd:d<nt:=by simpa[A_]using hd
 refine⟨by simpa[Act.put]using h.size,by simpa[Act.put]using h.defers,?_,?_⟩
 ·intro i e hi;rw[We hd h.size];simp only[St.put,Ck.get_nil,Ck.get_cons]at hi;split at hi
  ·rename_i hb;cases hi;rw[if_pos (AH hb)];exact⟨x,rfl,hr.ev,h2⟩
  ·rename_i hb;rw[if_neg (λe=>by subst e;simp at hb)];obtain⟨y,e1,e2,e3⟩:=h.env i e hi;exact⟨y,e1,DE.ext hr.ext e3 e2,EV.ok_mono h1 e3⟩
 ·exact(h.hp.pure hr.ext hr.M hr.A r.facts r.rows r.pres r.rix r.next h1 hr.facts h3 (λp hp=>⟨hr.rows p hp,h4 p hp⟩) (λp hp=>⟨hr.pres p hp,h5 p hp⟩) (λp hp=>⟨hr.rix p hp,h6 p hp⟩)).env ((d,r.ev)::st.env)
end
theorem Dc(ρ:Nat->Int)(a b:Int)(k:Nat):(⟨a,[(k,b)]⟩:LE).ev ρ=a+b*ρ k:=by simp[LE.ev,C5]
theorem YR{a c:Int}(h:0<=a)(hc:1<=c):a%c<=a:=by
 have:=Xk a c;have h2:0<=a/c:=Rm h (by omega);have:=Ro (show 0<=c by omega) h2;omega
def Val.ints(v:Val)(k:Nat)(l:List Int):Val:={v with ρ:=λi=>if i<k then v.ρ i else(l[i-k]?).getD 0}
theorem E6(v:Val)(k:Nat)(l:List Int):Ext k v (v.ints k l):=
 ⟨λi hi=>by simp[Val.ints,hi],λ_ _=>rfl,λ_ _=>rfl,λ_ _=>rfl,λ_ _ _ h=>h,λ_ _ h=>h⟩
theorem RR(v:Val)(k:Nat)(l:List Int)(j:Nat):(v.ints k l).ρ (k+j)=(l[j]?).getD 0:=by
 have:¬k+j<k:=by omega
 simp[Val.ints,this]
def Res.only(e:EV)(k:Nat):Res:=⟨e,[],[],[],[],k⟩
def Res.facts'(e:EV)(fs:List LE)(k:Nat):Res:=⟨e,fs,[],[],[],k⟩
section
variable{T:Ar}{v:Val}{k:Nat}
theorem ResOK.only{e:EV}(h:DE T v e x):ResOK T v k (.only e k) x v:=
 ⟨Ext.refl _ _,rfl,rfl,h,by simp[Holds,Res.only],by simp[Res.only],by simp[Res.only],by simp[Res.only]⟩
theorem X2{e:EV}{n:Nat}(hx:Ext k v v')(hM:v'.M=v.M)(hA:v'.A=v.A)(h:DE T v' e x)(hf:Holds v'.ρ fs):ResOK T v k (.facts' e fs n) x v':=
 ⟨hx,hM,hA,h,hf,by simp[Res.facts'],by simp[Res.facts'],by simp[Res.facts']⟩
def Qb(k:IntKind)(n:Int):Bool:=Nh (n-Cq k)&&Nh (C1 k-n)
theorem ZO{k:IntKind}{n:Int}(h:Qb k n=true):Bs k n:=by
 simp only[Qb,Aq]at h;have h1:=Vy h.1;have h2:=Vy h.2;exact⟨by omega,by omega⟩
def GW(k:IntKind)(s:Nat):List LE:=match k with
 | .i64=>[]
 | .u64=>[⟨0,[(s,1)]⟩]
 |k=>[⟨-Cq k,[(s,1)]⟩,⟨C1 k,[(s,-1)]⟩]
theorem Q7{k:IntKind}{s:Nat}(h:Bs k (ρ s)):Holds ρ (GW k s):=by
 intro f hf;have h1:=h.1;have h2:=h.2;cases k<;>simp only[GW,Ao,AB,or_false]at hf<;>first
  |(rcases hf with rfl|rfl<;>simp only[LE.ev,C5]<;>omega)
  |(subst hf;simp only[Cq]at h1;simp only[LE.ev,C5];omega)
theorem Wj{k:IntKind}{s n:Nat}(h:s<n):∀f∈GW k s,f.ok n=true:=by
 intro f hf;cases k<;>simp only[GW,Ao,AB,or_false]at hf<;>first
  |(rcases hf with rfl|rfl<;>simp[LE.ok,Bq,A_,h])
  |(subst hf;simp[LE.ok,Bq,A_,h])
def FN(ik:IntKind)(k:Nat)(fs:List LE):Res:=.facts' (.sc (.int ik (.s k))) (GW ik k++fs) (k+1)
variable{ik:IntKind}
theorem Ip{n:Int}(h:Bs ik n)(hf:Holds (v.ints k [n]).ρ fs):ResOK T v k (FN ik k fs) (.int ik n) (v.ints k [n]):=by
 have he:(v.ints k [n]).ρ k=n:=by simp[Val.ints]
 refine X2 (E6 _ _ _) V V ⟨?_,?_⟩ ?_
 ·simp[he]
 ·simpa[he]using h
 ·intro f hm;rcases B3.1 hm with hm|hm
  ·exact Q7 (by rw[he];exact h) f hm
  ·exact hf f hm
def Jg(gs:List LE)(ik:IntKind)(e:LE)(k:Nat):Res:=
 match BF gs CD (e.addk (-Cq ik))&&BF gs CD (.sub (.k (C1 ik)) e)with
 |true=>.only (.sc (.int ik e)) k
 |false=>FN ik k []
variable{gs:List LE}
theorem Lo(hg:Holds v.ρ gs):∃v',ResOK T v k (Jg gs ik e k) (.int ik (ik.wrap (e.ev v.ρ))) v':=by
 unfold Jg;split
 ·rename_i h;simp only[Aq]at h;have h1:=BU hg _ _ h.1;have h2:=BU hg _ _ h.2;simp only[LE.addk_ev,LE.sub_ev,LE.k_ev]at h1 h2;have hr:Bs ik (e.ev v.ρ):=⟨by omega,by omega⟩;rw[Xa hr];exact⟨v,ResOK.only ⟨rfl,hr⟩⟩
 ·exact⟨_,Ip (QW _ _) (by simp[Holds])⟩
end
def OO:Value->Option SC
 | .int k n=>match Qb k n with
  |true=>some (.int k (.k n))
  |false=>none
 | .bool b=>some (.bool (.k (Dr b)))
 | .string s=>match Nat.ble s.size maxLen with
  |true=>some (.str (.k s.size))
  |false=>none
 | .slice none 0 0=>some .nil
 | .pointer none=>some .pn
 | .float .f64 b=>match Qb .u64 (b:Int)with
  |true=>some (.flt (.k b))
  |false=>none
 |_=>none
def JP:List Value->Option (List SC)
 |[]=>some []
 |x::r=>match OO x,JP r with
  |some c,some l=>some (c::l)
  |_,_=>none
def Sg:Value->Option EV
 | .agg c=>(JP c.toList).map .agg
 |x=>(OO x).map .sc
def DO(st:St):Operand->Option EV
 | .tmp t=>Ck.get st.env t
 | .const x=>Sg x
 |_=>none
theorem XY{c:SC}(h:OO x=some c)(k:Nat):DC T v c x/\c.ok k=true:=by
 unfold OO at h;split at h<;>(try split at h)<;>cases h
 ·rename_i hr;exact⟨⟨by simp,by simpa using ZO hr⟩,rfl⟩
 ·rename_i b;refine⟨?_,rfl⟩;simp only[DC,LE.k_ev];cases b<;>simp[Dr]
 ·rename_i hr;exact⟨⟨_,rfl,by simp,CK hr⟩,rfl⟩
 ·exact⟨rfl,rfl⟩
 ·exact⟨rfl,rfl⟩
 ·rename_i hr;exact⟨⟨by simp,by simpa using ZO hr⟩,rfl⟩
theorem OP{T:Ar}{v:Val}(k:Nat):∀{l:List Value}{cs:List SC},JP l=some cs->All2 (DC T v) cs l/\cs.all (SC.ok k)=true
 |[],cs,h=>by simp only[JP]at h;cases h;exact⟨trivial,rfl⟩
 |x::l,cs,h=>by
  simp only[JP]at h;split at h
  ·rename_i c cs' h1 h2;cases h;have a1:=XY (T:=T) (v:=v) h1 k;have a2:=OP (T:=T) (v:=v) k h2;exact⟨⟨a1.1,a2.1⟩,by simp only[EJ,a1.2,a2.2];rfl⟩
  ·cases h
theorem Aen{e:EV}(h:Sg x=some e)(k:Nat):DE T v e x/\e.ok k=true:=by
 unfold Sg at h;split at h
 ·rename_i c;simp only[BG]at h;obtain⟨cs,h1,rfl⟩:=h;have:=OP (T:=T) (v:=v) k h1;exact⟨⟨c.toList,by simp,this.1⟩,this.2⟩
 ·simp only[BG]at h;obtain⟨c,h1,rfl⟩:=h;exact XY h1 k
variable{st:St}
theorem Gz{X:Cx}{nt:Nat}{a:Act}{w:World}(h:Den T X nt v st a w){x:Operand}{e:EV}(he:DO st x=some e):DE T v e (a.eval x)/\e.ok st.next=true:=by
 unfold DO at he;split at he
 ·obtain⟨y,h1,h2,h3⟩:=h.env _ _ he;have:a.eval (.tmp ‹_›)=y:=by simp[Act.eval,HL,h1]
  rw[this];exact⟨h2,h3⟩
 ·exact Aen he _
 ·cases he
def EV.c:EV->Option SC
 | .sc c=>some c
 |_=>none
def BT(st:St)(x:Operand):Option SC:=(DO st x).bind EV.c
theorem Db{X:Cx}{nt:Nat}{a:Act}{w:World}(h:Den T X nt v st a w){x:Operand}{c:SC}(he:BT st x=some c):DC T v c (a.eval x)/\c.ok st.next=true:=by
 unfold BT at he;simp only[BV]at he;obtain⟨e,h1,h2⟩:=he;cases e with
 |sc c'=>cases h2;exact Gz h h1
 |agg l=>cases h2
 |tup l=>cases h2
def LE.con(e:LE):Option Int:=match e.l with
 |[]=>some e.c
 |_=>none
theorem Fc{c:Int}(h:e.con=some c)(ρ:Nat->Int):e.ev ρ=c:=by
 unfold LE.con at h;split at h
 ·rename_i hl;cases h;simp[LE.ev,hl,C5]
 ·cases h
def ZM(k k':IntKind):Bool:=decide (k=k')
def F_(b:BE)(k:Nat):Option Res:=some (.only (.sc (.cmp b)) k)
def Abr(gs:List LE)(ik:IntKind)(e:LE)(c:Int)(k:Nat):Res:=
 match BF gs CD e with
 |true=>FN ik k [⟨0,[(k,1)]⟩,⟨C1 ik/c,[(k,-1)]⟩,.sub e (.mul c (.s k)),.addk (.sub (.mul c (.s k)) e) (c-1)]
 |false=>FN ik k []
def Abs(gs:List LE)(ik:IntKind)(e:LE)(c:Int)(k:Nat):Res:=
 match BF gs CD e with
 |true=>FN ik k [⟨0,[(k,1)]⟩,⟨c-1,[(k,-1)]⟩,.sub e (.s k)]
 |false=>FN ik k [⟨c-1,[(k,1)]⟩,⟨c-1,[(k,-1)]⟩]
def Q2:Int->Bool
 | .ofNat (_+1)=>true
 |_=>false
theorem Abm{c:Int}(h:Q2 c=true):1<=c:=by
 unfold Q2 at h;split at h
 ·simp;omega
 ·cases h
def binInt(gs:List LE)(op:BinOp)(ik:IntKind)(e f:LE)(k:Nat):Option Res:=
 match op with
 | .add=>some (Jg gs ik (.add e f) k)
 | .sub=>some (Jg gs ik (.sub e f) k)
 | .mul=>match e.con,f.con with
  |some c,_=>some (Jg gs ik (.mul c f) k)
  |none,some c=>some (Jg gs ik (.mul c e) k)
  |none,none=>some (FN ik k [])
 | .quo=>match f.con with
  |some c=>match Q2 c with
   |true=>some (Abr gs ik e c k)
   |false=>none
  |none=>none
 | .rem=>match f.con with
  |some c=>match Q2 c with
   |true=>some (Abs gs ik e c k)
   |false=>none
  |none=>none
 | .lss=>F_ (.ge (.addk (.sub f e) (-1))) k
 | .leq=>F_ (.ge (.sub f e)) k
 | .gtr=>F_ (.ge (.addk (.sub e f) (-1))) k
 | .geq=>F_ (.ge (.sub e f)) k
 | .eql=>F_ (.eq (.sub e f)) k
 | .neq=>F_ (.ne (.sub e f)) k
 |_=>none
def Kb(e:LE):Bool:=match e.con with
 |some c=>ES c
 |none=>false
def binStr(gs:List LE)(op:BinOp)(e f:LE)(k:Nat):Option Res:=
 match op with
 | .add=>match BF gs CD (.sub (.sub (.k maxLen) e) f)with
  |true=>some (.only (.sc (.str (.add e f))) k)
  |false=>none
 | .eql=>match Kb e||Kb f with
  |true=>F_ (.eq (.sub e f)) k
  |false=>F_ (.sq (.sub e f)) k
 | .neq=>match Kb e||Kb f with
  |true=>F_ (.ne (.sub e f)) k
  |false=>F_ (.sn (.sub e f)) k
 |_=>none
def W0(gs:List LE)(ik:IntKind)(e f:LE)(k:Nat):Option Res:=match f.con with
 |some (.ofNat c)=>match Nat.ble c ik.bits&&BF gs CD e with
  |true=>some (FN ik k [⟨0,[(k,1)]⟩,⟨C1 ik/((2 ^ c:Nat):Int),[(k,-1)]⟩,.sub e (.mul ((2 ^ c:Nat):Int) (.s k)),.addk (.sub (.mul ((2 ^ c:Nat):Int) (.s k)) e) (((2 ^ c:Nat):Int)-1)])
  |false=>none
 |_=>none
def Aqy:BinOp->Bool
 | .shr=>true
 |_=>false
def S_(gs:List LE)(op:BinOp)(x y:SC)(k:Nat):Option Res:=
 match x,y with
 | .int ik e,.int ik' f=>match Aqy op with
  |true=>W0 gs ik e f k
  |false=>match ZM ik ik' with
   |true=>binInt gs op ik e f k
   |false=>none
 | .str e,.str f=>binStr gs op e f k
 | .kd e q,.int .i64 f=>match op,f.con with
  | .eql,some c=>F_ (.kq (.addk e (-c)) (.addk q (-DY c))) k
  | .neq,some c=>F_ (.kn (.addk e (-c)) (.addk q (-DY c))) k
  |_,_=>none
 | .flt _,.flt _=>match op with
  | .eql| .neq| .lss| .leq| .gtr| .geq=>F_ (.sq (.k 0)) k
  |_=>none
 |_,_=>none
section
variable{P:Program}{T:Ar}{v:Val}{k:Nat}
variable{ik:IntKind}
theorem Au6{n c:Int}(hc:1<=c)(h0:0<=n)(h:Bs ik n):Bs ik (n.tdiv c):=by
 have:n.tdiv c=n/c:=Xl h0;have h1:n/c<=n:=Int.ediv_le_self c h0;have h2:0<=n/c:=Rm h0 (by omega);have h3:Cq ik<=0:=by cases ik<;>simp[Cq]
 rw[this];exact⟨by omega,by have:=h.2;omega⟩
variable{r:Res}{gs:List LE}
theorem At7(hg:Holds v.ρ gs){ik':IntKind}(h:W0 gs ik e f k=some r)(t:Nat)(he:Bs ik (e.ev v.ρ))(heo:e.ok k=true):
 ∃x v',(∀w,(binOp .shr t (.int ik (e.ev v.ρ)) (.int ik' (f.ev v.ρ))).run P w= .ok x w)/\ResOK T v k r x v':=by
 unfold W0 at h;split at h
 ·rename_i c hc;split at h<;>cases h;rename_i hq;simp only[Aq]at hq;have hf:f.ev v.ρ=(c:Int):=Fc hc v.ρ;have hcb:=CK hq.1;have h0:=BU hg _ _ hq.2;have hpos:(1:Int)<=((2 ^ c:Nat):Int):=by exact_mod_cast Nat.one_le_two_pow
  generalize hC:((2 ^ c:Nat):Int)=C at*;have hfd:(e.ev v.ρ).fdiv (2 ^ min ((c:Int).toNat) ik.bits)=e.ev v.ρ/C:=by
   have:min ((c:Int).toNat) ik.bits=c:=by simp only[Do];omega
   have h2:(2:Int) ^ c=C:=by rw[<-hC];norm_cast
   rw[this,h2,Xj _ (by omega)]
  have hq0:0<=e.ev v.ρ/C:=Rm h0 (by omega);have hq1:e.ev v.ρ/C<=e.ev v.ρ:=Int.ediv_le_self C h0;have hin:Bs ik (e.ev v.ρ/C):=by
   have h3:Cq ik<=0:=by cases ik<;>simp[Cq]
   exact⟨by omega,by have:=he.2;omega⟩
  refine⟨.int ik (e.ev v.ρ/C),v.ints k [e.ev v.ρ/C],λw=>?_,Ip hin ?_⟩
  ·rw[hf];have:¬((c:Int)<0):=by omega
   simp only[binOp,Op.shift,this,if_false,hfd];rfl
  ·have hs:(v.ints k [e.ev v.ρ/C]).ρ k=e.ev v.ρ/C:=by simp[Val.ints]
   have hee:e.ev (v.ints k [e.ev v.ρ/C]).ρ=e.ev v.ρ:=Bj (E6 v k _).ρ heo;have hd:=Xk (e.ev v.ρ) C;have hm0:=Ov (e.ev v.ρ) (show C≠0 by omega);have hm1:=Int.emod_lt_of_pos (e.ev v.ρ) (show 0<C by omega);intro f' hm;simp only[Ao,AB,or_false]at hm;have hup:e.ev v.ρ/C<=C1 ik/C:=Int.ediv_le_ediv (by omega) he.2;rcases hm with rfl|rfl|rfl|rfl
   ·simp only[Dc,hs];omega
   ·simp only[Dc,hs];omega
   ·simp only[LE.sub_ev,LE.mul_ev,LE.s_ev,hs,hee];omega
   ·simp only[LE.addk_ev,LE.sub_ev,LE.mul_ev,LE.s_ev,hs,hee];omega
 ·cases h
theorem Ae7(hg:Holds v.ρ gs){op:BinOp}(h:binInt gs op ik e f k=some r)(t:Nat)(he:Bs ik (e.ev v.ρ))(hf:Bs ik (f.ev v.ρ))(heo:e.ok k=true):
 ∃x v',(∀w,(binOp op t (.int ik (e.ev v.ρ)) (.int ik (f.ev v.ρ))).run P w= .ok x w)/\ResOK T v k r x v':=by
 have cmp:∀{b:BE}{t:Bool},b.rel v.ρ t->F_ b k=some r->∃v',ResOK T v k r (.bool t) v':=by
  intro b t hb hr;cases hr;exact⟨v,ResOK.only ⟨t,rfl,hb⟩⟩
 unfold binInt at h;cases op<;>simp only at h
 case add=>
  cases h;have:=Lo (T:=T) (k:=k) hg (ik:=ik) (e:=.add e f);rw[LE.add_ev]at this;exact⟨_,this.choose,λw=>by simp[binOp,Op.intArith],this.choose_spec⟩
 case sub=>
  cases h;have:=Lo (T:=T) (k:=k) hg (ik:=ik) (e:=.sub e f);rw[LE.sub_ev]at this;exact⟨_,this.choose,λw=>by simp[binOp,Op.intArith],this.choose_spec⟩
 case mul=>
  refine⟨.int ik (ik.wrap (e.ev v.ρ*f.ev v.ρ)),?_⟩;have hrun:∀w,(binOp .mul t (.int ik (e.ev v.ρ)) (.int ik (f.ev v.ρ))).run P w= .ok (.int ik (ik.wrap (e.ev v.ρ*f.ev v.ρ))) w:=λw=>by simp[binOp,Op.intArith]
  split at h<;>cases h
  ·rename_i c hc;have:=Lo (T:=T) (k:=k) hg (ik:=ik) (e:=.mul c f);rw[LE.mul_ev,<-Fc hc v.ρ]at this;obtain⟨v',hv⟩:=this;rw[Fc hc v.ρ]at hv⊢;refine⟨v',λw=>?_,hv⟩;have:=hrun w;rwa[Fc hc v.ρ]at this
  ·rename_i c _ hc;have:=Lo (T:=T) (k:=k) hg (ik:=ik) (e:=.mul c e);rw[LE.mul_ev,Int.mul_comm]at this;obtain⟨v',hv⟩:=this;rw[Fc hc v.ρ]at hrun⊢;exact⟨v',hrun,hv⟩
  ·exact⟨_,hrun,Ip (QW _ _) (by simp[Holds])⟩
 case quo=>
  split at h<;>(try split at h)<;>cases h;rename_i c hc _ hp;have hc':=Fc hc v.ρ;have h1:=Abm hp;rw[hc'];have hne:¬c=0:=by omega
  refine⟨.int ik (ik.wrap ((e.ev v.ρ).tdiv c)),(v.ints k [ik.wrap ((e.ev v.ρ).tdiv c)]),λw=>by simp[binOp,Op.intDiv,hne],?_⟩;unfold Abr;split
  ·rename_i hq;have h0:=BU hg _ _ hq;have hin:=Au6 h1 h0 he;rw[Xa hin];refine Ip hin ?_;have heq:(e.ev v.ρ).tdiv c=e.ev v.ρ/c:=Xl h0;have hs:(v.ints k [(e.ev v.ρ).tdiv c]).ρ k=e.ev v.ρ/c:=by simp[Val.ints,heq]
   have hee:e.ev (v.ints k [(e.ev v.ρ).tdiv c]).ρ=e.ev v.ρ:=Bj (E6 v k _).ρ heo;have hd:=Xk (e.ev v.ρ) c;have hm0:=Ov (e.ev v.ρ) hne;have hm1:=Int.emod_lt_of_pos (e.ev v.ρ) (show 0<c by omega);have hq0:0<=e.ev v.ρ/c:=Rm h0 (by omega);intro f' hm;simp only[Ao,AB,or_false]at hm;have hup:e.ev v.ρ/c<=C1 ik/c:=Int.ediv_le_ediv (by omega) he.2;rcases hm with rfl|rfl|rfl|rfl
   ·simp only[Dc,hs];omega
   ·simp only[Dc,hs];omega
   ·simp only[LE.sub_ev,LE.mul_ev,LE.s_ev,hs,hee];omega
   ·simp only[LE.addk_ev,LE.sub_ev,LE.mul_ev,LE.s_ev,hs,hee];omega
  ·exact Ip (QW _ _) (by simp[Holds])
 case rem=>
  split at h<;>(try split at h)<;>cases h;rename_i c hc _ hp;have hc':=Fc hc v.ρ;have h1:=Abm hp;rw[hc'];have hne:¬c=0:=by omega
  have hnat:(c.natAbs:Int)=c:=by omega
  have hmi:Cq ik<=0:=by cases ik<;>simp[Cq]
  have hl:-(c-1)<=(e.ev v.ρ).tmod c/\(e.ev v.ρ).tmod c<=c-1:=by
   rcases Ow 0 (e.ev v.ρ)with h0|h0
   ·have:=Int.tmod_nonneg c h0;have:=Int.tmod_lt_of_pos (e.ev v.ρ) (show 0<c by omega);omega
   ·have e1:(e.ev v.ρ).tmod c= -((-(e.ev v.ρ)).tmod c):=by rw[Int.neg_tmod];omega
    have:=Int.tmod_nonneg c (show 0<= -(e.ev v.ρ)by omega);have:=Int.tmod_lt_of_pos (-(e.ev v.ρ)) (show 0<c by omega);omega
  have hle:0<=e.ev v.ρ->0<=(e.ev v.ρ).tmod c/\(e.ev v.ρ).tmod c<=e.ev v.ρ:=λh0=>by
   rw[Rp h0];exact⟨Ov _ hne,YR h0 h1⟩
  have hin:Bs ik ((e.ev v.ρ).tmod c):=by
   have hf':=hf;rw[hc']at hf';have:=hf'.2;rcases Ow 0 (e.ev v.ρ)with h0|h0
   ·exact⟨by have:=hle h0;omega,by omega⟩
   ·have e1:(e.ev v.ρ).tmod c= -((-(e.ev v.ρ)).tmod c):=by rw[Int.neg_tmod];omega
    have h2:(-(e.ev v.ρ)).tmod c=(-(e.ev v.ρ))%c:=Rp (by omega);have h3:=YR (show 0<= -(e.ev v.ρ)by omega) h1;have h4:=Ov (-(e.ev v.ρ)) hne;have:=he.1;exact⟨by omega,by omega⟩
  refine⟨.int ik ((e.ev v.ρ).tmod c),(v.ints k [(e.ev v.ρ).tmod c]),λw=>by simp[binOp,Op.intDiv,hne],?_⟩;have hs:(v.ints k [(e.ev v.ρ).tmod c]).ρ k=(e.ev v.ρ).tmod c:=by simp[Val.ints]
  have hee:e.ev (v.ints k [(e.ev v.ρ).tmod c]).ρ=e.ev v.ρ:=Bj (E6 v k _).ρ heo;unfold Abs;split
  ·rename_i hq;have h0:=BU hg _ _ hq;have:=hle h0;refine Ip hin ?_;intro f' hm;simp only[Ao,AB,or_false]at hm;rcases hm with rfl|rfl|rfl
   ·simp only[Dc,hs];omega
   ·simp only[Dc,hs];omega
   ·simp only[LE.sub_ev,LE.s_ev,hs,hee];omega
  ·refine Ip hin ?_;intro f' hm;simp only[Ao,AB,or_false]at hm;rcases hm with rfl|rfl
   ·simp only[Dc,hs];omega
   ·simp only[Dc,hs];omega
 case lss=>exact⟨_,_,λw=>by simp[binOp,Op.intCmp],(cmp (b:=.ge (.addk (.sub f e) (-1))) (t:=decide (e.ev v.ρ<f.ev v.ρ)) (by simp only[BE.rel,LE.addk_ev,LE.sub_ev,decide_eq_true_eq];omega) h).choose_spec⟩
 case leq=>exact⟨_,_,λw=>by simp[binOp,Op.intCmp],(cmp (b:=.ge (.sub f e)) (t:=decide (e.ev v.ρ<=f.ev v.ρ)) (by simp only[BE.rel,LE.sub_ev,decide_eq_true_eq];omega) h).choose_spec⟩
 case gtr=>exact⟨_,_,λw=>by simp[binOp,Op.intCmp],(cmp (b:=.ge (.addk (.sub e f) (-1))) (t:=decide (e.ev v.ρ>f.ev v.ρ)) (by simp only[BE.rel,LE.addk_ev,LE.sub_ev,decide_eq_true_eq];omega) h).choose_spec⟩
 case geq=>exact⟨_,_,λw=>by simp[binOp,Op.intCmp],(cmp (b:=.ge (.sub e f)) (t:=decide (e.ev v.ρ>=f.ev v.ρ)) (by simp only[BE.rel,LE.sub_ev,decide_eq_true_eq];omega) h).choose_spec⟩
 case eql=>exact⟨_,_,λw=>by simp[binOp,Op.intCmp],(cmp (b:=.eq (.sub e f)) (t:=(e.ev v.ρ==f.ev v.ρ)) (by simp only[BE.rel,LE.sub_ev,beq_iff_eq];omega) h).choose_spec⟩
 case neq=>exact⟨_,_,λw=>by simp[binOp,Op.intCmp],(cmp (b:=.ne (.sub e f)) (t:=(e.ev v.ρ !=f.ev v.ρ)) (by simp only[BE.rel,LE.sub_ev,bne_eq_false_iff_eq];omega) h).choose_spec⟩
 all_goals cases h
end
inductive TD where
 |int (k:IntKind)
 |bool
 |str
 |flt
 |ptr
 |slice (e:Nat)
 |struct (fs:List (Nat×Nat))
 |other
structure TI where
 agg:Bool
 size:Nat
 bytes:Nat
 zero:List Value
 d:TD
 ft:List (Nat×Nat×Nat):=[]
def OH(P:Program)(t:Nat):TD->Prop
 | .int k=>P.underlying t=some (.int k)
 | .bool=>P.underlying t=some .bool
 | .str=>P.underlying t=some .string
 | .slice e=>P.underlying t=some (.slice e)
 | .struct fs=>∃fields:Array Field,P.underlying t=some (.struct fields)/\
  (∀w,(fields.mapM λ(f:Field)=>(do pure (f.offset,<-sizeOf f.type):Sem (Nat×Nat))).run P w= .ok fs.toArray w)/\∀j p,fs[j]? =some p->Ax P t j p.1
 |_=>True
structure KO(P:Program)(t:Nat)(i:TI):Prop where
 ty:AC P t i.agg i.size
 info:∃(inf:TypeInfo) (z:Value),P.info? t=some inf/\inf.zero=some z/\z.cells=i.zero.toArray/\inf.size=i.size/\inf.bytes=i.bytes
 zv:∃z:Value,(∀w,(zeroValue t).run P w= .ok z w)/\z.cells=i.zero.toArray/\(i.agg=true->z= .agg i.zero.toArray)
 len:i.zero.length=i.size
 d:OH P t i.d
 fts:∀q∈i.ft,∃fields f,P.underlying t=some (.struct fields)/\fields[q.1]? =some f/\f.type=q.2.1/\f.offset=q.2.2
def CB(P:Program)(ty:Nat->Option TI):Prop:=∀t i,ty t=some i->KO P t i
def VQ:BE->BE
 | .ge e=>.ge (.addk (.neg e) (-1))
 | .eq e=>.ne e
 | .ne e=>.eq e
 | .sq e=>.sn e
 | .sn e=>.sq e
 | .kq e q=>.kn e q
 | .kn e q=>.kq e q
variable{b:BE}
theorem Ar3{t:Bool}(h:b.rel ρ t):(VQ b).rel ρ (!t):=by
 cases b<;>simp only[BE.rel,VQ,LE.addk_ev,LE.neg_ev]at h⊢<;>cases t<;>simp_all<;>omega
def WR(gs:List LE)(op:UnOp)(x:SC)(k:Nat):Option Res:=
 match op,x with
 | .not,.bool e=>some (.only (.sc (.bool (.addk (.neg e) 1))) k)
 | .not,.cmp b=>some (.only (.sc (.cmp (VQ b))) k)
 | .neg,.int ik e=>some (Jg gs ik (.neg e) k)
 |_,_=>none
section
variable{P:Program}{T:Ar}{X:Cx}{nt:Nat}{v:Val}{st:St}{a:Act}{w:World}{k:Nat}
variable{y:Value}{r:Res}{gs:List LE}
theorem Avg(hg:Holds v.ρ gs){op:UnOp}{x:SC}(h:WR gs op x k=some r)(hx:DC T v x y):
 ∃z v',(∀w,(Op.unary op y).run P w= .ok z w)/\ResOK T v k r z v':=by
 unfold WR at h;split at h<;>cases h
 ·rename_i e;obtain⟨h1,rfl⟩:=hx;refine⟨.bool (!decide (e.ev v.ρ=1)),v,λw=>by simp[Op.unary],ResOK.only ?_⟩;show DC T v (.bool _) _;simp only[DC,LE.addk_ev,LE.neg_ev];rcases h1 with h1|h1<;>simp[h1]
 ·obtain⟨t,rfl,h1⟩:=hx;exact⟨_,v,λw=>by simp[Op.unary],ResOK.only ⟨_,rfl,Ar3 h1⟩⟩
 ·rename_i ik e;obtain⟨rfl,h1⟩:=hx;have:=Lo (T:=T) (k:=k) hg (ik:=ik) (e:=.neg e);rw[LE.neg_ev]at this;obtain⟨v',hv⟩:=this;exact⟨_,v',λw=>by simp[Op.unary,Op.intArith],hv⟩
def Ta(ty:Nat->Option TI)(gs:List LE)(s t:Nat)(x:SC)(k:Nat):Option Res:=
 match ty s,ty t,x with
 |some i,some j,.int _ e=>match i.d,j.d with
  | .int _,.int ik=>some (Jg gs ik e k)
  |_,_=>none
 |some i,some j,.str e=>match i.d,j.d with
  | .str,.str=>some (.only (.sc (.str e)) k)
  |_,_=>none
 |_,_,_=>none
variable{t:Nat}{ty:Nat->Option TI}
theorem Amj(hty:CB P ty)(hg:Holds v.ρ gs){s:Nat}{x:SC}(h:Ta ty gs s t x k=some r)(hx:DC T v x y):
 ∃z v',(∀w,(convert s t y).run P w= .ok z w)/\ResOK T v k r z v':=by
 unfold Ta at h;split at h
 ·rename_i i j ik e hi hj;split at h<;>cases h;rename_i h1 h2;have u1:=(hty _ _ hi).d;rw[h1]at u1;have u2:=(hty _ _ hj).d;rw[h2]at u2;obtain⟨rfl,_⟩:=hx;obtain⟨v',hv⟩:=Lo (T:=T) (k:=k) hg (ik:=‹_›) (e:=e);exact⟨_,v',λw=>by simp[convert,run_underlying u1,run_underlying u2,Conv.intToInt],hv⟩
 ·rename_i i j e hi hj;split at h<;>cases h;rename_i h1 h2;have u1:=(hty _ _ hi).d;rw[h1]at u1;have u2:=(hty _ _ hj).d;rw[h2]at u2;obtain⟨b,rfl,h3,h4⟩:=hx;exact⟨_,v,λw=>by simp[convert,run_underlying u1,run_underlying u2],ResOK.only ⟨b,rfl,h3,h4⟩⟩
 ·cases h
def Vx(ty:Nat->Option TI)(gs:List LE)(t:Nat)(x y:SC)(k:Nat):Option Res:=
 match ty t,x,y with
 |some i,.str n,.int _ e=>match i.d with
  | .str=>match BF gs CD e&&BF gs CD (.addk (.sub n e) (-1))with
   |true=>some (FN .u8 k [])
   |false=>none
  |_=>none
 |_,_,_=>none
theorem Aqr(hty:CB P ty)(hg:Holds v.ρ gs){x y:SC}(h:Vx ty gs t x y k=some r){vx vy:Value}(hx:DC T v x vx)(hy:DC T v y vy):
 ∃z v',(∀w,(Instr.index t vx vy).run P w= .ok z w)/\ResOK T v k r z v':=by
 unfold Vx at h;split at h
 ·rename_i i n ik e hi;split at h<;>(try split at h)<;>cases h;rename_i h1 _ hp;have u1:=(hty _ _ hi).d;rw[h1]at u1;simp only[Aq]at hp;have p1:=BU hg _ _ hp.1;have p2:=BU hg _ _ hp.2;simp only[LE.addk_ev,LE.sub_ev]at p2;obtain⟨b,rfl,h3,h4⟩:=hx;obtain⟨rfl,_⟩:=hy;have hlt:(e.ev v.ρ).toNat<b.size:=by omega
  have hb:b[(e.ev v.ρ).toNat]? =some b[(e.ev v.ρ).toNat]:=getElem?_pos b _ hlt;refine⟨.int .u8 (b[(e.ev v.ρ).toNat]).toNat,_,λw=>?_,Ip ?_ (by simp[Holds])⟩
  ·simp[Instr.index,asIntOf,run_underlying u1,p1,hb]
  ·have:=(b[(e.ev v.ρ).toNat]).toNat_lt;simp only[Bs,Cq,C1];omega
 ·cases h
def Lr(e:LE):List LE:=match e.con with
 |some _=>[]
 |none=>[e,.sub (.k maxLen) e]
theorem Aq8(h0:0<=e.ev ρ)(h1:e.ev ρ<=maxLen):Holds ρ (Lr e):=by
 unfold Lr;split
 ·simp[Holds]
 ·intro f hf;simp only[Ao,AB,or_false]at hf;rcases hf with rfl|rfl
  ·exact h0
  ·simp only[LE.sub_ev,LE.k_ev];omega
def V6(ty:Nat->Option TI)(t:Nat)(x:SC)(k:Nat):Option Res:=
 match ty t,x with
 |some i,.str e=>match i.d with
  | .str=>some (.facts' (.sc (.int .i64 e)) (Lr e) k)
  |_=>none
 |some i,.fz _ _ n _ _ _=>match i.d with
  | .slice _=>some (.facts' (.sc (.int .i64 n)) (Lr n) k)
  |_=>none
 |some i,.ar _ n=>match i.d with
  | .slice _=>some (.facts' (.sc (.int .i64 n)) (Lr n) k)
  |_=>none
 |some i,.nil=>match i.d with
  | .slice _=>some (.only (.sc (.int .i64 (.k 0))) k)
  |_=>none
 |_,_=>none
theorem VD:(maxLen:Int)=9223372036854775807:=by decide
theorem Aq9(hty:CB P ty){u:Nat}{x:SC}(h:V6 ty t x k=some r)(hx:DC T v x y):
 ∃z v',(∀w,(Builtin.len_ #[t] u #[y]).run P w= .ok z w)/\ResOK T v k r z v':=by
 have key:∀{e:LE}{n:Nat},e.ev v.ρ=n->n<=maxLen->ResOK T v k (.facts' (.sc (.int .i64 e)) (Lr e) k) (.int .i64 n) v:=by
  intro e n h1 h2;have hm:=VD;refine X2 (Ext.refl _ _) V V ?_ (Aq8 (by omega) (by omega));show DC T v (.int _ _) _;simp only[DC,h1,Bs,Cq,C1];exact⟨trivial,by omega,by omega⟩
 unfold V6 at h;split at h
 ·rename_i i e hi;split at h<;>cases h;rename_i h1;have u1:=(hty _ _ hi).d;rw[h1]at u1;obtain⟨b,rfl,h3,h4⟩:=hx;exact⟨_,v,λw=>GR u1,key h3.symm h4⟩
 ·rename_i i e j n m d o hi;split at h<;>cases h;rename_i h1;have u1:=(hty _ _ hi).d;rw[h1]at u1;obtain⟨h2,⟨a,cap,rfl,h3,h4⟩,h5,_⟩:=hx;exact⟨_,v,λw=>AM u1,key h5 h3⟩
 ·rename_i i ik n hi;split at h<;>cases h;rename_i h1;have u1:=(hty _ _ hi).d;rw[h1]at u1;obtain⟨j,h2,a,cap,rfl,h3,h4,h5⟩:=hx;exact⟨_,v,λw=>AM u1,key h2 (by omega)⟩
 ·rename_i i hi;split at h<;>cases h;rename_i h1;have u1:=(hty _ _ hi).d;rw[h1]at u1;cases hx;refine⟨_,v,λw=>AM u1,ResOK.only ?_⟩;show DC T v (.int _ _) _;simp[DC,Bs,Cq,C1]
 ·cases h
variable{β:Type}
theorem All2.get{R:α->β->Prop}:∀{l:List α}{m:List β},All2 R l m->∀{i:Nat}{x:α},l[i]? =some x->∃y,m[i]? =some y/\R x y
 |[],[],_,i,x,h=>by simp at h
 |a::l,b::m,h,0,x,hi=>by simp at hi;subst hi;exact⟨b,rfl,h.1⟩
 |a::l,b::m,h,i+1,x,hi=>by simp at hi;obtain⟨y,h1,h2⟩:=h.2.get hi;exact⟨y,by simpa using h1,h2⟩
 |[],_::_,h,_,_,_=>h.elim
 |_::_,[],h,_,_,_=>h.elim
theorem All2.length{R:α->β->Prop}:∀{l:List α}{m:List β},All2 R l m->l.length=m.length
 |[],[],_=>rfl
 |a::l,b::m,h=>by simp[h.2.length]
 |[],_::_,h=>h.elim
 |_::_,[],h=>h.elim
theorem All2.drop{R:α->β->Prop}:∀{l:List α}{m:List β},All2 R l m->∀(i:Nat),All2 R (l.drop i) (m.drop i)
 |[],[],_,i=>by simp[All2]
 |a::l,b::m,h,0=>h
 |a::l,b::m,h,i+1=>by simpa using h.2.drop i
 |[],_::_,h,_=>h.elim
 |_::_,[],h,_=>h.elim
theorem All2.take{R:α->β->Prop}:∀{l:List α}{m:List β},All2 R l m->∀(i:Nat),All2 R (l.take i) (m.take i)
 |[],[],_,i=>by simp[All2]
 |a::l,b::m,h,0=>by simp[All2]
 |a::l,b::m,h,i+1=>by simp only[JH];exact⟨h.1,h.2.take i⟩
 |[],_::_,h,_=>h.elim
 |_::_,[],h,_=>h.elim
theorem All2.append{R:α->β->Prop}:∀{l:List α}{m:List β}{l':List α}{m':List β},All2 R l m->All2 R l' m'->All2 R (l++l') (m++m')
 |[],[],_,_,_,h=>h
 |a::l,b::m,_,_,h,h'=>⟨h.1,h.2.append h'⟩
 |[],_::_,_,_,h,_=>h.elim
 |_::_,[],_,_,h,_=>h.elim
def T6(x:EV)(i:Nat)(k:Nat):Option Res:=
 match x with
 | .tup l=>match l[i]? with
  |some (true,cs)=>some (.only (.agg cs) k)
  |some (false,[c])=>some (.only (.sc c) k)
  |_=>none
 |_=>none
theorem Anl{x:EV}(h:T6 x i k=some r)(hx:DE T v x y):
 ∃z v',(∀w,(Instr.extract y i).run P w= .ok z w)/\ResOK T v k r z v':=by
 unfold T6 at h;split at h
 ·rename_i l;obtain⟨xs,rfl,h2⟩:=hx;split at h<;>cases h
  ·rename_i cs hl;obtain⟨z,h3,h4⟩:=h2.get hl;exact⟨z,v,λw=>by simp[Instr.extract,h3],ResOK.only h4⟩
  ·rename_i c hl;obtain⟨z,h3,c',h4,h5⟩:=h2.get hl;cases h4;exact⟨z,v,λw=>by simp[Instr.extract,h3],ResOK.only h5⟩
 ·cases h
def T9(ty:Nat->Option TI)(s:Nat)(x:SC)(f:Nat)(k:Nat):Option Res:=
 match ty s with
 |some i=>match i.d with
  | .struct fs=>match fs[f]? with
   |some (off,_)=>match x with
    | .vp g o=>some (.only (.sc (.vp g (o+off))) k)
    | .fp r o=>some (.only (.sc (.fp r (o+off))) k)
    |_=>none
   |none=>none
  |_=>none
 |none=>none
theorem Ann(hty:CB P ty){s f:Nat}{x:SC}(h:T9 ty s x f k=some r)(hx:DC T v x y):
 ∃z v',(∀w,(Instr.fieldAt s y f).run P w= .ok z w)/\ResOK T v k r z v':=by
 unfold T9 at h;split at h
 ·rename_i i hi;split at h
  ·rename_i fs hd;have u1:=(hty _ _ hi).d;rw[hd]at u1;obtain⟨fields,_,_,h3⟩:=u1;split at h
   ·rename_i off sz hf;have h4:=h3 _ _ hf;split at h<;>cases h
    ·obtain⟨b,h5,rfl⟩:=hx;exact⟨_,v,λw=>h4 w _ _,ResOK.only ⟨b,h5,rfl⟩⟩
    ·cases hx;refine⟨_,v,λw=>h4 w _ _,ResOK.only ?_⟩;show DC T v (.fp _ _) _;simp only[DC,Fe]
   ·cases h
  ·cases h
 ·cases h
def Aa3(x:SC)(k:Nat):Option Res:=
 match x with
 | .vp g o=>some (.only (.sc (.vp g o)) k)
 | .fp r o=>some (.only (.sc (.fp r o)) k)
 |_=>none
end
def BZ:List CT->Nat->List SC×List LE×LE×LE×List LE×Nat
 |[],k=>([],[],.k 0,.k 0,[],k)
 | .int ik _::ts,k=>match BZ ts (k+1)with
  |(l,fs,a,b,ds,n)=>(.int ik (.s k)::l,GW ik k++fs,a,b,ds,n)
 | .bool c::ts,k=>match BZ ts (k+1)with
  |(l,fs,a,b,ds,n)=>(.bool (.s k)::l,⟨0,[(k,1)]⟩::⟨1,[(k,-1)]⟩::fs,a.addk c,b.addk c,ds,n)
 | .str c0 c1 c2::ts,k=>match BZ ts (k+1)with
  |(l,fs,a,b,ds,n)=>(.str (.s k)::l,⟨0,[(k,1)]⟩::fs,.add ⟨(min c0 c1:Nat),[(k,(c2:Int))]⟩ a,b.addk (min c0 (c1+c2):Nat),ds,n)
 | .fz e c::ts,k=>match BZ ts (k+3)with
  |(l,fs,a,b,ds,n)=>(.fz e k (.s k) (.s (k+1)) (.s (k+2)) none::l,⟨0,[(k,1)]⟩::⟨0,[(k+1,1)]⟩::fs,
   .add ⟨c,[(k+1,1)]⟩ a,.add ⟨c,[(k+1,1)]⟩ b,.s (k+2)::ds,n)
 | .ar ik c0 c1::ts,k=>match BZ ts (k+1)with
  |(l,fs,a,b,ds,n)=>(.ar ik (.s k)::l,⟨0,[(k,1)]⟩::fs,.add ⟨c0,[(k,(c1:Int))]⟩ a,.add ⟨c0,[(k,(c1:Int))]⟩ b,ds,n)
 | .pt _ _ _::ts,k=>match BZ ts k with
  |(l,fs,a,b,ds,n)=>(.un::l,fs,a,b,ds,n)
 | .kd _::ts,k=>match BZ ts (k+2)with
  |(l,fs,a,b,ds,n)=>(.kd (.s k) (.s (k+1))::l,⟨0,[(k+1,1)]⟩::fs,a,b,ds,n)
def CC:SC->LE
 | .int _ e=>e
 | .bool e=>e
 | .str e=>e
 | .flt e=>e
 | .fz _ _ n _ _ _=>n
 | .ar _ n=>n
 | .kd _ q=>q
 | .sk=>.k 1
 | .lit _ _ n _ _=>.k n
 |_=>.k 0
def Val.upd(v:Val)(k:Nat)(f:Nat->Int)(g:Nat->LV):Val:=
 {v with ρ:=λi=>if i<k then v.ρ i else f i,δ:=λi=>if i<k then v.δ i else g i}
theorem Aeh(v:Val)(k:Nat)(f:Nat->Int)(g:Nat->LV):Ext k v (v.upd k f g):=
 ⟨λi hi=>by simp[Val.upd,hi],λi hi=>by simp[Val.upd,hi],λ_ _=>rfl,λ_ _=>rfl,λ_ _ _ h=>h,λ_ _ h=>h⟩
def Kn(e:Nat)(l:List (List CV)):Value->LV
 | .slice (some a) _ _=>⟨e,l,a.block,a.off⟩
 |_=>⟨e,l,0,0⟩
theorem Aas(e:Nat)(l:List (List CV))(x:Value):(Kn e l x).e=e:=by unfold Kn;split<;>rfl
theorem Lu(e:Nat)(l:List (List CV))(x:Value):(Kn e l x).l=l:=by unfold Kn;split<;>rfl
theorem Arb{e c:Nat}(h:RepC T M A (.fz l) (.fz e c) x):ListAt T M A (Kn e l x) x:=by
 simp only[RepC]at h;obtain⟨a,cap,rfl,h2,h3⟩:=h;refine⟨a,cap,by rw[Lu],by rw[Lu];exact h2,?_⟩;rw[Lu,Aas];refine h3.imp id ?_;rintro⟨b,o,rfl,h4,h5,h6⟩;exact⟨rfl,h4,h5,h6⟩
def I7:CT->SC->Option LE
 | .int _ c,_=>some (.k (match Nat.beq c 0 with|true=>0|false=>10))
 | .bool c,_=>some (.k c)
 | .str c0 c1 c2,.str n=>some (.addk (.mul c2 n) (max c0 c1:Nat))
 | .fz _ c,.fz _ _ _ m _ _=>some (m.addk c)
 | .ar _ c0 c1,.ar _ n=>some (.addk (.mul c1 n) c0)
 | .kd _,_=>some (.k 10)
 |_,_=>none
def Oe:List CT->List SC->Option LE
 |[],_=>some (.k 0)
 |t::ts,c::cs=>match I7 t c,Oe ts cs with
  |some a,some b=>some (.add a b)
  |_,_=>none
 |_,[]=>none
def V1:CT->Bool
 | .pt _ _ _=>true
 |_=>false
structure X3(T:Ar)(M:AT)(A:AV)(r:List CV)(ts:List CT)(b o k:Nat)(v v':Val):Prop where
 ext:Ext k v v'
 hM:v'.M=v.M
 hA:v'.A=v.A
 hβ:v'.β=v.β
 hκ:v'.κ=v.κ
 cells:∃cs,All2 (DC T v') (BZ ts k).1 cs/\∀j x,cs[j]? =some x->M b (o+j)=some x
 facts:Holds v'.ρ (BZ ts k).2.1
 a:(BZ ts k).2.2.1.ev v'.ρ<=CP T r ts
 b:(BZ ts k).2.2.2.1.ev v'.ρ<=CP T r ts
 d:∀e∈(BZ ts k).2.2.2.2.1,e.ev v'.ρ<=EC T r ts
 u:∀e,Oe ts (BZ ts k).1=some e->CP T r ts<=e.ev v'.ρ
 n:∀(j:Nat),((BZ ts k).1[j]?).map (λc=>(CC c).ev v'.ρ)=(r[j]?).map CV.n\/ts[j]?.map V1=some true
theorem Jx:∀(ts:List CT) (k:Nat),k<=(BZ ts k).2.2.2.2.2
 |[],k=>Ay _
 | .int _ _::ts,k=>AX (by omega) (Jx ts (k+1))
 | .bool _::ts,k=>AX (by omega) (Jx ts (k+1))
 | .str _ _ _::ts,k=>AX (by omega) (Jx ts (k+1))
 | .fz _ _::ts,k=>AX (by omega) (Jx ts (k+3))
 | .ar _ _ _::ts,k=>AX (by omega) (Jx ts (k+1))
 | .pt _ _ _::ts,k=>Jx ts k
 | .kd _::ts,k=>AX (by omega) (Jx ts (k+2))
theorem At3(c0 c1 c2 n:Nat):(min c0 c1:Nat)+(c2:Int)*n<=CF c0 c1 c2 n:=by
 unfold CF;split
 ·rename_i h;subst h;simp;omega
 ·omega
theorem At4(c0 c1 c2 n:Nat):((min c0 (c1+c2):Nat):Int)<=CF c0 c1 c2 n:=by
 unfold CF;split
 ·omega
 ·rename_i h;have:(c2:Int)*1<=(c2:Int)*n:=Int.mul_le_mul_of_nonneg_left (by omega) (by omega);omega
theorem Ae0(b:Bool):Dr b=0\/Dr b=1:=by cases b<;>simp[Dr]
theorem Qa(c:Nat)(n:Int):EP c n<=10:=by unfold EP;split<;>(try split)<;>omega
theorem Abg{k:Nat}(h:j<k):(LE.s j).ok k=true:=by simp[LE.ok,LE.s,Bq,A_,h]
theorem Q0{k:Nat}{a:Int}:∀{l:List (Nat×Int)},Bq k l=true->Bq k (Fp a l)=true
 |[],_=>rfl
 |(u,i)::l,h=>by
  simp only[Bq,Aq,A_]at h;simp only[Fp,FK];split
  ·exact Q0 h.2
  ·simp only[Bq,Aq,A_];exact⟨h.1,Q0 h.2⟩
theorem Aa1{T:Ar}:∀(r:List CV) (ts:List CT) (b o k:Nat) (v:Val),RepR T v.M v.A r ts b o->∃v',X3 T v.M v.A r ts b o k v v'
 |[],[],b,o,k,v,h=>⟨v,Ext.refl _ _,rfl,rfl,rfl,rfl,⟨[],trivial,by simp⟩,by simp[BZ,Holds],by simp[BZ,CP],by simp[BZ,CP],by simp[BZ],by simp[BZ,Oe,CP],by simp[BZ]⟩
 |[],_::_,b,o,k,v,h=>by simp only[RepR]at h
 |_::_,[],b,o,k,v,h=>by simp only[RepR]at h
 |c::r,t::ts,b,o,k,v,h=>by
  simp only[RepR]at h;obtain⟨⟨x,hx,hc⟩,hr⟩:=h
  --one cell,then the others
  have step:∀(k':Nat) (v1:Val) (sc:SC) (fs1:List LE) (a1 b1:LE) (ds1:List LE),k<=k'->Ext k v v1->v1.M=v.M->v1.A=v.A->v1.β=v.β->v1.κ=v.κ->DC T v1 sc x->sc.ok k'=true->
   Holds v1.ρ fs1->(∀f∈fs1,f.ok k'=true)->a1.ev v1.ρ<=Bl T c t->a1.ok k'=true->b1.ev v1.ρ<=Bl T c t->b1.ok k'=true->(∀e∈ds1,e.ev v1.ρ<=Df T c t/\e.ok k'=true)->
   ((CC sc).ev v1.ρ=c.n\/V1 t=true)->(CC sc).ok k'=true->(∀e,I7 t sc=some e->Bl T c t<=e.ev v1.ρ/\e.ok k'=true)->
   (BZ (t::ts) k).1=sc::(BZ ts k').1->(BZ (t::ts) k).2.1=fs1++(BZ ts k').2.1->
   (∀ρ,(BZ (t::ts) k).2.2.1.ev ρ=a1.ev ρ+(BZ ts k').2.2.1.ev ρ)->(∀ρ,(BZ (t::ts) k).2.2.2.1.ev ρ=b1.ev ρ+(BZ ts k').2.2.2.1.ev ρ)->
   (BZ (t::ts) k).2.2.2.2.1=ds1++(BZ ts k').2.2.2.2.1->∃v',X3 T v.M v.A (c::r) (t::ts) b o k v v':=by
   intro k' v1 sc fs1 a1 b1 ds1 hk hext hM hA hβ hκ hsc hsck hfs hfsk ha hak hb hbk hds hn hnk hup e1 e2 e3 e4 e5;rw[<-hM,<-hA]at hr;obtain⟨v',S⟩:=Aa1 r ts b (o+1) k' v1 hr;refine⟨v',hext.trans S.ext hk,S.hM.trans hM,S.hA.trans hA,S.hβ.trans hβ,S.hκ.trans hκ,?_,?_,?_,?_,?_,?_,?_⟩
   ·obtain⟨cs,h1,h2⟩:=S.cells;rw[e1];refine⟨x::cs,⟨DC.ext S.ext hsck hsc,h1⟩,?_⟩;intro j y hj;cases j with
    |zero=>simp at hj;subst hj;simpa using hx
    |succ j=>
     simp at hj;have:=h2 j y hj;rw[hM]at this;rwa[show o+(j+1)=o+1+j from by omega]
   ·rw[e2];intro f hf;rcases B3.1 hf with hf|hf
    ·rw[Bj S.ext.ρ (hfsk f hf)];exact hfs f hf
    ·exact S.facts f hf
   ·rw[e3,Bj S.ext.ρ hak];simp only[CP];have:=S.a;omega
   ·rw[e4,Bj S.ext.ρ hbk];simp only[CP];have:=S.b;omega
   ·rw[e5];intro e he;simp only[EC];rcases B3.1 he with he|he
    ·rw[Bj S.ext.ρ (hds e he).2];have:=(hds e he).1;omega
    ·have:=S.d e he;omega
   ·rw[e1];intro e he;simp only[Oe]at he;split at he<;>cases he;rename_i a b h1 h2;simp only[CP,LE.add_ev];have:=S.u b h2;have h3:=hup a h1;rw[Bj S.ext.ρ h3.2];omega
   ·rw[e1];intro j;cases j with
    |zero=>
     rcases hn with hn|hn
     ·left;simp[Bj S.ext.ρ hnk,hn]
     ·right;simp[hn]
    |succ j=>simpa using S.n j
  cases t with
  |int ik ci=>
   cases c<;>simp only[RepC]at hc;rename_i n;obtain⟨rfl,hin⟩:=hc;have he:(v.ints k [n]).ρ k=n:=by simp[Val.ints]
   refine step (k+1) (v.ints k [n]) (.int ik (.s k)) (GW ik k) (.k 0) (.k 0) [] (by omega) (E6 _ _ _) V V V V ?_ ?_ ?_ ?_ ?_ V ?_ V (by simp) (.inl (by simp[CC,he,CV.n])) ?_ ?_ V V
    (λρ=>by simp[BZ]) (λρ=>by simp[BZ]) rfl
   ·show DC T _ (.int _ _) _;simp[DC,he,hin]
   ·simp[SC.ok,LE.ok,LE.s,Bq,A_]
   ·exact Q7 (by rw[he];exact hin)
   ·exact Wj (Cb _)
   ·simp only[LE.k_ev];exact FD T _ _
   ·simp only[LE.k_ev];exact FD T _ _
   ·simp[CC,LE.ok,LE.s,Bq,A_]
   ·intro e hu;simp only[I7]at hu;cases hu;refine⟨?_,rfl⟩;simp only[Bl,LE.k_ev];split
    ·rename_i h0;simp[EP,AH h0]
    ·exact Qa _ _
  |bool ci=>
   cases c<;>simp only[RepC]at hc;rename_i n;subst hc;have he:(v.ints k [Dr n]).ρ k=Dr n:=by simp[Val.ints]
   have hb:=Ae0 n;refine step (k+1) (v.ints k [Dr n]) (.bool (.s k)) [⟨0,[(k,1)]⟩,⟨1,[(k,-1)]⟩] (.k ci) (.k ci) [] (by omega) (E6 _ _ _) V V V V ?_ ?_ ?_ ?_ ?_ V ?_ V (by simp) (.inl (by simp[CC,he,CV.n])) ?_ ?_ V V
    (λρ=>(LE.addk_ev _ _ _).trans (by rw[LE.k_ev];exact Int.add_comm _ _)) (λρ=>(LE.addk_ev _ _ _).trans (by rw[LE.k_ev];exact Int.add_comm _ _)) V
   ·show DC T _ (.bool _) _;simp only[DC,LE.s_ev,he];cases n<;>simp[Dr]
   ·simp[SC.ok,LE.ok,LE.s,Bq,A_]
   ·intro f hf;simp only[Ao,AB,or_false]at hf;rcases hf with rfl|rfl<;>simp only[Dc,he]<;>omega
   ·intro f hf;simp only[Ao,AB,or_false]at hf;rcases hf with rfl|rfl<;>simp[LE.ok,Bq,A_]
   ·simp[Bl]
   ·simp[Bl]
   ·simp[CC,LE.ok,LE.s,Bq,A_]
   ·intro e hu;simp only[I7]at hu;cases hu;exact⟨by simp[Bl],rfl⟩
  |str c0 c1 c2=>
   cases c<;>simp only[RepC]at hc;rename_i s;obtain⟨rfl,hs⟩:=hc;have he:(v.ints k [(s.size:Int)]).ρ k=s.size:=by simp[Val.ints]
   refine step (k+1) (v.ints k [(s.size:Int)]) (.str (.s k)) [⟨0,[(k,1)]⟩] ⟨(min c0 c1:Nat),[(k,(c2:Int))]⟩ (.k (min c0 (c1+c2):Nat)) [] (by omega) (E6 _ _ _) V V V V ?_ ?_ ?_ ?_ ?_ ?_ ?_ V (by simp) (.inl (by simp[CC,he,CV.n])) ?_ ?_ V V
    (λρ=>by simp[BZ]) (λρ=>(LE.addk_ev _ _ _).trans (by rw[LE.k_ev];exact Int.add_comm _ _)) V
   ·show DC T _ (.str _) _;exact⟨s,rfl,by simp[he],hs⟩
   ·simp[SC.ok,LE.ok,LE.s,Bq,A_]
   ·intro f hf;simp only[Ao,AB,or_false]at hf;subst hf;simp only[Dc,he];omega
   ·intro f hf;simp only[Ao,AB,or_false]at hf;subst hf;simp[LE.ok,Bq,A_]
   ·simp only[Dc,he,Bl];exact At3 _ _ _ _
   ·simp[LE.ok,Bq,A_]
   ·simp only[LE.k_ev,Bl];exact At4 _ _ _ _
   ·simp[CC,LE.ok,LE.s,Bq,A_]
   ·intro e hu;simp only[I7]at hu;cases hu;refine⟨?_,Q0 (Abg (Cb _))⟩;simp only[Bl,LE.addk_ev,LE.mul_ev,LE.s_ev,he];unfold CF;split
    ·rename_i h0;simp[h0];omega
    ·omega
  |fz e ci=>
   cases c<;>try (simp only[RepC]at hc;done)
   rename_i l;have hL:=Arb hc;let f:Nat->Int:=λi=>if i=k then(l.length:Int)else if i=k+1 then Az T l e else Bi T l e
   let v1:=v.upd k f (λ_=>Kn e l x);have e0:v1.ρ k=l.length:=by simp[v1,Val.upd,f]
   have e1:v1.ρ (k+1)=Az T l e:=by
    have:¬k+1<k:=by omega
    simp[v1,Val.upd,f,this]
   have e2:v1.ρ (k+2)=Bi T l e:=by
    have:¬k+2<k:=by omega
    simp[v1,Val.upd,f,this]
   have e3:v1.δ k=Kn e l x:=by simp[v1,Val.upd]
   refine step (k+3) v1 (.fz e k (.s k) (.s (k+1)) (.s (k+2)) none) [⟨0,[(k,1)]⟩,⟨0,[(k+1,1)]⟩] ⟨ci,[(k+1,1)]⟩ ⟨ci,[(k+1,1)]⟩ [.s (k+2)] (by omega) (Aeh _ _ _ _) V V V V ?_ ?_ ?_ ?_ ?_ ?_ ?_ ?_ ?_
    (.inl (by simp[CC,e0,CV.n])) ?_ ?_ rfl rfl (λρ=>by simp[BZ]) (λρ=>by simp[BZ]) rfl
   ·show DC T _ (.fz _ _ _ _ _ _) _;refine⟨by rw[e3,Aas],by rw[e3];exact hL,?_,?_,?_,by simp⟩
    ·rw[LE.s_ev,e0,e3,Lu]
    ·rw[LE.s_ev,e1,e3,Lu]
    ·rw[LE.s_ev,e2,e3,Lu]
   ·simp[SC.ok,LE.ok,LE.s,Bq,Iw,A_]
   ·intro f hf;simp only[Ao,AB,or_false]at hf;have:=EE T l e;have:=IZ T e l;rcases hf with rfl|rfl<;>simp only[Dc,e0,e1]<;>omega
   ·intro f hf;simp only[Ao,AB,or_false]at hf;rcases hf with rfl|rfl<;>simp[LE.ok,Bq,A_]
   ·simp only[Dc,e1,Bl];omega
   ·simp[LE.ok,Bq,A_]
   ·simp only[Dc,e1,Bl];omega
   ·simp[LE.ok,Bq,A_]
   ·intro d hd;simp only[Ao,AB,or_false]at hd;subst hd;refine⟨by rw[LE.s_ev,e2];simp only[Df];omega,by simp[LE.ok,LE.s,Bq,A_]⟩
   ·simp[CC,LE.ok,LE.s,Bq,A_]
   ·intro q hu;simp only[I7]at hu;cases hu;refine⟨?_,?_⟩
    ·simp only[Bl,LE.addk_ev,LE.s_ev,e1];omega
    ·simp[LE.addk,LE.s,LE.ok,Bq,A_]
  |ar ik c0 c1=>
   cases c<;>simp only[RepC]at hc;rename_i n;have he:(v.ints k [(n:Int)]).ρ k=n:=by simp[Val.ints]
   refine step (k+1) (v.ints k [(n:Int)]) (.ar ik (.s k)) [⟨0,[(k,1)]⟩] ⟨c0,[(k,(c1:Int))]⟩ ⟨c0,[(k,(c1:Int))]⟩ [] (by omega) (E6 _ _ _) V V V V ?_ ?_ ?_ ?_ ?_ ?_ ?_ ?_ (by simp) (.inl (by simp[CC,he,CV.n])) ?_ ?_ V V
    (λρ=>by simp[BZ]) (λρ=>by simp[BZ]) rfl
   ·show DC T _ (.ar _ _) _;exact⟨n,by simp[he],hc⟩
   ·simp[SC.ok,LE.ok,LE.s,Bq,A_]
   ·intro f hf;simp only[Ao,AB,or_false]at hf;subst hf;simp only[Dc,he];omega
   ·intro f hf;simp only[Ao,AB,or_false]at hf;subst hf;simp[LE.ok,Bq,A_]
   ·simp only[Dc,he,Bl];omega
   ·simp[LE.ok,Bq,A_]
   ·simp only[Dc,he,Bl];omega
   ·simp[LE.ok,Bq,A_]
   ·simp[CC,LE.ok,LE.s,Bq,A_]
   ·intro e hu;simp only[I7]at hu;cases hu;refine⟨?_,?_⟩
    ·simp only[Bl,LE.addk_ev,LE.mul_ev,LE.s_ev,he];omega
    ·exact Q0 (Abg (Cb _))
  |kd ci=>
   cases c<;>simp only[RepC]at hc;rename_i n;obtain⟨rfl,hin⟩:=hc;have he:(v.ints k [n,DY n]).ρ k=n:=by simp[Val.ints]
   have he2:(v.ints k [n,DY n]).ρ (k+1)=DY n:=by rw[RR];simp
   refine step (k+2) (v.ints k [n,DY n]) (.kd (.s k) (.s (k+1))) [⟨0,[(k+1,1)]⟩] (.k 0) (.k 0) [] (by omega) (E6 _ _ _) V V V V ?_ ?_ ?_ ?_ ?_ V ?_ V (by simp)
    (.inl (by simp only[CC,LE.s_ev,he2,CV.n])) ?_ ?_ rfl rfl (λρ=>by simp[BZ]) (λρ=>by simp[BZ]) rfl
   ·show DC T _ (.kd _ _) _;simp only[DC,LE.s_ev,he,he2];exact⟨trivial,hin,trivial⟩
   ·simp[SC.ok,LE.ok,LE.s,Bq,A_]
   ·have q1:=Abk n;intro f hf;simp only[Ao,AB,or_false]at hf;subst hf;simp only[Dc,he2];omega
   ·intro f hf;simp only[Ao,AB,or_false]at hf;subst hf;simp[LE.ok,Bq,A_]
   ·simp only[LE.k_ev];exact FD T _ _
   ·simp only[LE.k_ev];exact FD T _ _
   ·simp[CC,LE.ok,LE.s,Bq,A_]
   ·intro e hu;simp only[I7]at hu;cases hu;refine⟨?_,rfl⟩;simp only[Bl,LE.k_ev];exact Qa _ _
  |pt e c0 c1=>
   refine step k v .un [] (.k 0) (.k 0) [] (Ay _) (Ext.refl _ _) V V V V hc.one V (by simp[Holds]) (by simp) (by simp only[LE.k_ev];exact FD T _ _) V (by simp only[LE.k_ev];exact FD T _ _) V (by simp) (.inr V) V (λe he=>by simp[I7]at he) V V
    (λρ=>by simp[BZ]) (λρ=>by simp[BZ]) rfl
end Go.Ck