import Derived.Test.YtdldhfocpandoaaGreatNuB
import Derived.Test.YtdldhfocpandoaaGreatStN
set_option maxHeartbeats 8000000
set_option maxRecDepth 8000
namespace Go.Ck
open Go.Sx Go.Proofs Go.Proofs.Tryz
section
variable{T:Ar}{M M':AT}{A A':AV}{w w':World}
def RowV(T:Ar)(M:AT)(A:AV):List CV->List CT->List Value->Prop
 |[],[],[]=>True
 |c::r,t::ts,x::xs=>RepC T M A c t x/\RowV T M A r ts xs
 |_,_,_=>False
theorem RowV.mono(hM:DD M M')(hA:Fb A A'):∀{r:List CV}{ts:List CT}{xs:List Value},RowV T M A r ts xs->RowV T M' A' r ts xs:=by
 intro r;induction r with
 |nil=>intro ts xs h;cases ts<;>cases xs<;>simp only[RowV]at h⊢
 |cons c r ih=>intro ts xs h;cases ts<;>cases xs<;>simp only[RowV]at h⊢;exact⟨RepC.mono hM hA _ _ _ h.1,ih h.2⟩
theorem RowV.len:∀{r:List CV}{ts:List CT}{xs:List Value},RowV T M A r ts xs->xs.length=ts.length/\r.length=ts.length:=by
 intro r;induction r with
 |nil=>intro ts xs h;cases ts<;>cases xs<;>simp only[RowV]at h;exact⟨rfl,rfl⟩
 |cons c r ih=>intro ts xs h;cases ts<;>cases xs<;>simp only[RowV]at h;have:=ih h.2;simp[this]
theorem RowV.one:∀{r:List CV}{ts:List CT}{xs:List Value},RowV T M A r ts xs->∀x∈xs,x.oneCell'=true:=by
 intro r;induction r with
 |nil=>intro ts xs h;cases ts<;>cases xs<;>simp only[RowV]at h;simp
 |cons c r ih=>intro ts xs h;cases ts<;>cases xs<;>simp only[RowV]at h;intro x hx;rcases Ao.1 hx with rfl|hx;exact RepC.one h.1;exact ih h.2 x hx
variable{b:Nat}
theorem RowV.rep:∀{r:List CV}{ts:List CT}{xs:List Value}{o:Nat},RowV T M A r ts xs->(∀j x,xs[j]? =some x->M b (o+j)=some x)->RepR T M A r ts b o:=by
 intro r;induction r with
 |nil=>intro ts xs o h;cases ts<;>cases xs<;>simp only[RowV]at h;simp[RepR]
 |cons c r ih=>
  intro ts xs o h;cases ts<;>cases xs<;>simp only[RowV]at h;intro hc;simp only[RepR];exact⟨⟨_,hc 0 _ V,h.1⟩,ih h.2 λj x hj=>by have:=hc (j+1) x (by simpa using hj);rwa[show o+(j+1)=o+1+j by omega]at this⟩
theorem RowV.of:∀{r:List CV}{ts:List CT}{xs:List Value}{o:Nat},RepR T M A r ts b o->xs.length=ts.length->(∀j x,xs[j]? =some x->M b (o+j)=some x)->RowV T M A r ts xs:=by
 intro r;induction r with
 |nil=>intro ts xs o h hl hc;cases ts<;>simp only[RepR]at h;cases xs<;>simp[RowV]at hl⊢
 |cons c r ih=>
  intro ts xs o h hl hc;cases ts<;>simp only[RepR]at h;cases xs with
  |nil=>simp at hl
  |cons x xs=>
   obtain⟨⟨y,h1,h2⟩,h3⟩:=h;have:=hc 0 x rfl;rw[Hf,h1]at this;cases this;exact⟨h2,ih h3 (by simpa using hl) λj z hj=>by have:=hc (j+1) z (by simpa using hj);rwa[show o+(j+1)=o+1+j by omega]at this⟩
variable{y:Value}{c:CV}
theorem RowV.set{t:CT}(hy:RepC T M A c t y):∀{r:List CV}{ts:List CT}{xs:List Value}{j:Nat},RowV T M A r ts xs->ts[j]? =some t->RowV T M A (r.set j c) ts (xs.set j y):=by
 intro r;induction r with
 |nil=>intro ts xs j h ht;cases ts<;>cases xs<;>simp only[RowV]at h;simp at ht
 |cons c r ih=>
  intro ts xs j h ht;cases ts<;>cases xs<;>simp only[RowV]at h;cases j with
  |zero=>simp at ht;subst ht;exact⟨hy,h.2⟩
  |succ j=>exact⟨h.1,ih h.2 (by simpa using ht)⟩
def RowsV(T:Ar)(M:AT)(A:AV)(e j:Nat)(l:List (List CV))(xs:List Value):Prop:=
 xs.length=l.length*(T e).cells.length/\∀i r,l[i]? =some r->RowV T M A r (T e).cells ((xs.drop (i*(T e).cells.length)).take (T e).cells.length)/\InvR T e r (j+i)
variable{xs:List Value}{l:List (List CV)}{j e:Nat}
theorem RowsV.mono(hM:DD M M')(hA:Fb A A')(h:RowsV T M A e j l xs):RowsV T M' A' e j l xs:=
 ⟨h.1,λi r hi=>⟨(h.2 i r hi).1.mono hM hA,(h.2 i r hi).2⟩⟩
theorem RowsV.nil:RowsV T M A e j [] []:=⟨by simp,by simp⟩
variable{r:List CV}
theorem X4(h:RowV T M A r (T e).cells xs)(hi:InvR T e r j):RowsV T M A e j [r] xs:=by
 refine⟨by simp[h.len.1],λi r' hr=>?_⟩;cases i with
 |zero=>
  simp at hr;subst hr;rw[Mo,FI,R0 (by rw[h.len.1];exact Ay _)];exact⟨h,hi⟩
 |succ i=>simp at hr
variable{ys:List Value}
theorem RowsV.append{l2:List (List CV)}(h:RowsV T M A e j l xs)(k:RowsV T M A e (j+l.length) l2 ys):RowsV T M A e j (l++l2) (xs++ys):=by
 refine⟨by rw[Bh,Bh,h.1,k.1,Dq],λi r hr=>?_⟩;by_cases hlt:i<l.length
 ·rw[GD hlt]at hr;have h1:(i+1)*(T e).cells.length<=l.length*(T e).cells.length:=EL _ hlt;rw[Dq,Nat.one_mul]at h1;rw[List.drop_append_of_le_length (by rw[h.1];omega),List.take_append_of_le_length (by rw[ID,h.1];omega)];exact h.2 i r hr
 ·rw[Me (by omega)]at hr;have:=k.2 _ r hr;rw[show xs++ys=xs++ys from rfl,show i*(T e).cells.length=xs.length+(i-l.length)*(T e).cells.length by rw[h.1,<-Dq];congr 1;omega,List.drop_append,List.drop_of_length_le (by omega),Dh,Xs];rw[show j+i=j+l.length+(i-l.length)by omega];exact this
variable{o:Nat}
theorem RowsV.of(h:RepL T M A l e b o j)(hl:xs.length=l.length*(T e).cells.length)(hc:∀i x,xs[i]? =some x->M b (o+i)=some x):RowsV T M A e j l xs:=by
 refine⟨hl,λi r hr=>?_⟩;have hg:=RepL.get h hr;have hlt:i<l.length:=(C3.1 hr).1;have h1:(i+1)*(T e).cells.length<=l.length*(T e).cells.length:=EL _ hlt;rw[Dq,Nat.one_mul]at h1;refine⟨RowV.of hg.1 (by rw[HO,ID,hl];omega) λk x hk=>?_,hg.2⟩;rw[Ea]at hk;split at hk
 ·rw[He]at hk;have:=hc _ x hk;rwa[<-Fe]at this
 ·cases hk
theorem X1{e b:Nat}:∀{l:List (List CV)}{o j:Nat},(∀i r,l[i]? =some r->RepR T M A r (T e).cells b (o+i*(T e).cells.length)/\InvR T e r (j+i))->RepL T M A l e b o j
 |[],_,_,_=>by simp only[RepL]
 |r::l,o,j,h=>by
  simp only[RepL];have h0:=h 0 r rfl;simp only[Mo,Hf]at h0;refine⟨h0.1,h0.2,X1 λi r' hr=>?_⟩;have:=h (i+1) r' (by simpa using hr);rw[show o+(T e).cells.length+i*(T e).cells.length=o+(i+1)*(T e).cells.length by rw[Dq];omega,show j+1+i=j+(i+1)by omega];exact this
theorem RowsV.rep(h:RowsV T M A e j l xs)(hc:∀i x,xs[i]? =some x->M b (o+i)=some x):RepL T M A l e b o j:=by
 refine X1 λi r hr=>⟨(h.2 i r hr).1.rep λk x hk=>?_,(h.2 i r hr).2⟩;rw[Ea]at hk;split at hk
 ·rw[He]at hk;have:=hc _ x hk;rwa[<-Fe]at this
 ·cases hk
theorem RowsV.one(h:RowsV T M A e j l xs)(hk:0<(T e).cells.length):∀x∈xs,x.oneCell'=true:=by
 intro x hx;obtain⟨p,hp⟩:=Mh hx;have hlt:=(C3.1 hp).1;rw[h.1]at hlt;have hi:p/(T e).cells.length<l.length:=Nat.div_lt_of_lt_mul (by rw[HU];exact hlt);obtain⟨r,hr⟩:∃r,l[p/(T e).cells.length]? =some r:=⟨_,Bm hi⟩;refine(h.2 _ r hr).1.one x (BA (i:=p%(T e).cells.length) ?_);rw[Ea,if_pos (Fv _ hk),He,HU,Nat.div_add_mod];exact hp
variable{i:Nat}
theorem RowsV.set{q:Nat}(h:RowsV T M A e j l xs)(hr:l[i]? =some r){t:CT}(ht:(T e).cells[q]? =some t)(hy:RepC T M A c t y)(hinv:InvR T e (r.set q c) (j+i)):
 RowsV T M A e j (l.set i (r.set q c)) (xs.set (i*(T e).cells.length+q) y):=by
 have hq:=(C3.1 ht).1;refine⟨by simpa using h.1,λi' r' hr'=>?_⟩;rw[List.getElem?_set]at hr';by_cases hi:i=i'
 ·subst hi;rw[if_pos rfl,if_pos (C3.1 hr).1]at hr';cases hr';refine⟨?_,hinv⟩;have:=(h.2 i r hr).1.set hy ht;rw[List.drop_set,if_neg (by omega),Xs,List.take_set];exact this
 ·rw[if_neg hi]at hr';have:=h.2 i' r' hr';refine⟨?_,this.2⟩;have hcut:((xs.set (i*(T e).cells.length+q) y).drop (i'*(T e).cells.length)).take (T e).cells.length=(xs.drop (i'*(T e).cells.length)).take (T e).cells.length:=by
   refine List.ext_getElem? λp=>?_;rw[Ea,Ea];split
   ·rename_i hp;rw[He,He,List.getElem?_set_ne];rcases Nat.lt_or_gt_of_ne hi with h1|h1
    ·have:(i+1)*(T e).cells.length<=i'*(T e).cells.length:=EL _ h1;rw[Dq]at this;omega
    ·have:(i'+1)*(T e).cells.length<=i*(T e).cells.length:=EL _ h1;rw[Dq]at this;omega
   ·rfl
  rw[hcut];exact this.1
def frzM(M:AT)(g:Nat)(ys:List Value):AT:=λb o=>if b=g then ys[o]? else M b o
variable{g:Nat}
theorem An1(h:∀o y,M g o=some y->ys[o]? =some y):DD M (frzM M g ys):=by
 intro b o x hx;unfold frzM;split
 ·rename_i hb;subst hb;exact h o x hx
 ·exact hx
theorem WOK.frz(h:WOK w M A)(hc:∀o y,ys[o]? =some y->w.cell? ⟨g,o,none⟩=some y)(h1:∀y∈ys,y.oneCell'=true)(ha:A g=none):WOK w (frzM M g ys) A:=by
 refine⟨λb o x hx=>?_,h.hA⟩;unfold frzM at hx;split at hx
 ·rename_i hb;subst hb;exact⟨hc o x hx,ha,h1 x (BA hx)⟩
 ·exact h.hM b o x hx
structure Thaw(T:Ar)(w:World)(M:AT)(A:AV)(el e:Nat)(l:List (List CV))(x:Value)(xs:List Value):Prop where
 row:w.ownsRow 0 el (T e).cells.length x l.length xs
 rows:RowsV T M A e 0 l xs
 blk:∀b,x.ownBlock=some b->A b=none/\b<w.heap.size/\∀o y,M b o=some y->xs[o]? =some y
variable{x:Value}
theorem WOK.lt(h:WOK w M A)(hx:M b o=some x):b<w.heap.size:=by
 have:=(h.hM b o x hx).1;cases hb:w.heap[b]? with
 |none=>simp[World.cell?,hb]at this
 |some y=>exact(FG.1 hb).1
theorem WOK.ltA(h:WOK w M A){x:IntKind×Nat}(hx:A b=some x):b<w.heap.size:=by
 obtain⟨c,t,e1,_⟩:=h.hA b x.1 x.2 hx;exact(FG.1 e1).1
theorem WOK.grown(h:WOK w M A){g:Option Nat}(hg:w.grownBy w' g)(ha:∀b,g=some b->A b=none/\∀o y,M b o=some y->w'.cell? ⟨b,o,none⟩=some y):WOK w' M A:=by
 refine⟨λb o x hx=>⟨?_,(h.hM b o x hx).2⟩,λb k sz hx=>?_⟩
 ·by_cases hb:some b=g
  ·exact(ha b hb.symm).2 o x hx
  ·rw[GM (hg.block b (h.lt hx) hb)];exact(h.hM b o x hx).1
 ·have hb:some b≠g:=λhb=>by rw[(ha b hb.symm).1]at hx;cases hx
  obtain⟨c,t,e1,e2⟩:=h.hA b k sz hx;exact⟨c,t,by rw[hg.block b (h.ltA hx) hb];exact e1,e2⟩
variable{el:Nat}
theorem Thaw.cells(h:Thaw T w M A el e l x xs)(hb:x.ownBlock=some b):∀o y,xs[o]? =some y->w.cell? ⟨b,o,none⟩=some y:=by
 rcases h.row.2 with⟨rfl,_⟩|⟨g,cap,cur,rfl,_,h3,h4,h5,h6,h7⟩
 ·simp[Value.ownBlock]at hb
 ·simp only[Value.ownBlock,Option.some.injEq]at hb;subst hb;intro o y hy;rw[<-h7,Ea]at hy;split at hy
  ·simp only[World.cell?,h3];simpa using hy
  ·cases hy
theorem Thaw.freeze(wok:WOK w M A)(hk:0<(T e).cells.length)(h:Thaw T w M A el e l x xs)(hlm:l.length<=maxLen):∃M',DD M M'/\WOK w M' A/\(∃u:LV,u.e=e/\u.l=l/\ListAt T M' A u x)/\OwnV T w M' A el e l.length x.ownBlock x/\
 ∀b o y,M' b o=some y->M b o=some y\/x.ownBlock=some b:=by
 have hcl:=λ{b}=>h.cells (b:=b);rcases h.row.2 with⟨rfl,h0⟩|⟨g,cap,cur,rfl,_,h3,h4,h5,h6,h7⟩
 ·have hl:l=[]:=E2 h0;exact⟨M,λ_ _ _ h=>h,wok,⟨⟨e,l,0,0⟩,rfl,rfl,none,0,by rw[hl];rfl,hlm,.inl hl⟩,rfl,λ_ _ _ h=>.inl h⟩
 ·obtain⟨b1,b2,b3⟩:=h.blk g rfl;have hone:=h.rows.one hk;have hle:=An1 b3;refine⟨frzM M g xs,hle,wok.frz (hcl V) hone b1,⟨⟨e,l,g,0⟩,rfl,rfl,_,cap,rfl,hlm,.inr ⟨rfl,h4,h5,?_⟩⟩,⟨l.length,cap,cur.toList,rfl,by unfold Blk;simpa using h3,by simpa using h6,by exact_mod_cast h4,h5,λo y hy=>?_,b1⟩,λb o y hy=>?_⟩
  ·refine(h.rows.mono hle (λ_ _ h=>h)).rep λi y hi=>?_;simp[frzM,hi]
  ·simp only[frzM,if_true]at hy;have:=(C3.1 hy).1;rw[h.rows.1]at this;exact_mod_cast this
  ·unfold frzM at hy;split at hy
   ·rename_i hb;exact .inr (by rw[hb];rfl)
   ·exact .inl hy
variable{u t:Nat}{P:Program}
theorem RP{ty:Nat->Option TI}(hty:CB P ty){ot:Nat}{ti te:TI}(hti:ty t=some ti)(hd1:ti.d= .slice el)(hte:ty el=some te)(hsz:te.size=(T e).cells.length)(hby:0<te.bytes)(wok:WOK w M A)
 {l2:List (List CV)}{x2:Value}{news:List Value} (h:Thaw T w M A el e l x xs) (hs:Src P (T e).cells.length u x2 l2.length news w) (h2:RowsV T M A e l.length l2 news) (hb:(l.length+l2.length)*te.bytes<=140737488355328):
 ∃z w',(Builtin.append_ #[t,u] ot #[x,x2]).run P w= .ok z w'/\Thaw T w' M A el e (l++l2) z (xs++news)/\WOK w' M A/\((w.grownBy w' x.ownBlock/\z.ownBlock=x.ownBlock)\/(w.grownBy w' none/\z.ownBlock=some w.heap.size)):=by
 have u1:=(hty _ _ hti).d;rw[hd1]at u1;have I:=hty _ _ hte;obtain⟨inf,z,i1,i2,i3,i4,i5⟩:=I.info;have hzs:z.cells.size=(T e).cells.length:=by rw[i3];simp[I.len,hsz]
 rw[hsz]at i4;have hnm:l.length+l2.length<=maxLen:=by
  have:(l.length+l2.length)*1<=(l.length+l2.length)*te.bytes:=IJ _ hby;simp only[maxLen];omega
 obtain⟨vz,wz,r1,r2,r3⟩:=Ye (P:=P) (ty:=ot) u1 i1 i2 i4 i5 hzs h.row hs hnm hb;have hrow:wz.ownsRow 0 el (T e).cells.length vz (l++l2).length (xs++news):=by rw[Bh];exact r2
 have hrows:=h.rows.append (j:=0) (by rw[BO];exact h2);have hT:Thaw T wz M A el e (l++l2) vz (xs++news):=by
  refine⟨hrow,hrows,λb hb=>?_⟩;rcases r3 with⟨g1,g2⟩|⟨g1,g2⟩
  ·rw[g2]at hb;obtain⟨b1,b2,b3⟩:=h.blk b hb;refine⟨b1,BB b2 g1.size,λo y hy=>?_⟩;have:=b3 o y hy;rw[GD (C3.1 this).1];exact this
  ·rw[g2]at hb;cases hb;have hnew:∀o y,M w.heap.size o≠some y:=λo y hy=>RG _ (wok.lt hy);refine⟨?_,?_,λo y hy=>absurd hy (hnew o y)⟩
   ·cases hA:A w.heap.size with
    |none=>rfl
    |some q=>exact absurd (wok.ltA hA) (RG _)
   ·rcases hrow.2 with⟨rfl,_⟩|⟨g,cap,cur,rfl,_,h3,_⟩
    ·simp[Value.ownBlock]at g2
    ·simp only[Value.ownBlock,Option.some.injEq]at g2;subst g2;exact(FG.1 h3).1
 refine⟨vz,wz,r1,hT,?_,r3⟩;rcases r3 with⟨g1,g2⟩|⟨g1,g2⟩
 ·exact wok.grown g1 λb hb=>⟨(h.blk b hb).1,λo y hy=>hT.cells (g2.trans hb) o y ((hT.blk b (g2.trans hb)).2.2 o y hy)⟩
 ·exact wok.grown g1 λb hb=>by cases hb
variable{B:Nat->Prop}
theorem FraM.refl:FraM B w M A w M A:=⟨rfl,rfl,rfl,Ay _,λ_ _ _ _=>rfl,λ_ _ _ h=>.inl h,λ_ _ h=>.inl h⟩
variable{C:Nat->Prop}
theorem FraM.trans{w1:World}{M1:AT}{A1:AV}(f:FraM B w M A w1 M1 A1)(g:FraM C w1 M1 A1 w' M' A')(h:∀b,C b->B b\/w.heap.size<=b):FraM B w M A w' M' A':=by
 refine⟨g.os.trans f.os,g.tape.trans f.tape,g.output.trans f.output,AX f.size g.size,λb hb hB hA=>?_,λb o x hx=>?_,λb x hx=>?_⟩
 ·have hC:¬C b:=λhc=>by rcases h b hc with h|h;exact hB h;omega
  have hA1:A1 b=none:=by
   cases h1:A1 b with
   |none=>rfl
   |some y=>rcases f.A b y h1 with h2|h2;rw[hA]at h2;cases h2;omega
  rw[g.blk b (BB hb f.size) hC hA1,f.blk b hb hB hA]
 ·have:=f.size;rcases g.M b o x hx with h1|h1|h1
  ·exact f.M b o x h1
  ·rcases h b h1 with h2|h2;exact .inr (.inl h2);exact .inr (.inr h2)
  ·exact .inr (.inr (by omega))
 ·have:=f.size;rcases g.A b x hx with h1|h1
  ·exact f.A b x h1
  ·exact .inr (by omega)
theorem FraM.weak(f:FraM B w M A w' M' A')(h:∀b,B b->C b):FraM C w M A w' M' A':=
 ⟨f.os,f.tape,f.output,f.size,λb hb hB hA=>f.blk b hb (λhc=>hB (h b hc)) hA,λb o x hx=>(f.M b o x hx).imp id (.imp (h b) id),f.A⟩
theorem FraM.grown{g:Option Nat}(h:w.grownBy w' g):FraM (λb=>g=some b) w M A w' M A:=
 ⟨h.os,h.tape,h.output,h.size,λb hb hB _=>h.block b hb (λe=>hB e.symm),λ_ _ _ h=>.inl h,λ_ _ h=>.inl h⟩
theorem FraM.frz:FraM (λb=>b=g) w M A w (frzM M g ys) A:=by
 refine⟨rfl,rfl,rfl,Ay _,λ_ _ _ _=>rfl,λb o x hx=>?_,λ_ _ h=>.inl h⟩;unfold frzM at hx;split at hx
 ·exact .inr (.inl ‹_›)
 ·exact .inl hx
theorem FraM.ofFr{O O':Nat->Prop}(f:Fr O w O' w')(h:∀b,O b->B b):FraM B w M A w' M A:=
 ⟨f.os,f.tape,f.output,f.size,λb hb hB _=>f.blk b hb (λho=>hB (h b ho)),λ_ _ _ h=>.inl h,λ_ _ h=>.inl h⟩
theorem WOK.ofFr{O O':Nat->Prop}(h:WOK w M A)(f:Fr O w O' w')(hO:∀b,O b->A b=none/\∀o,M b o=none):WOK w' M A:=by
 refine⟨λb o x hx=>⟨?_,(h.hM b o x hx).2⟩,λb k sz hx=>?_⟩
 ·rw[GM (f.blk b (h.lt hx) λho=>by rw[(hO b ho).2 o]at hx;cases hx)];exact(h.hM b o x hx).1
 ·obtain⟨c,t,e1,e2⟩:=h.hA b k sz hx;exact⟨c,t,by rw[f.blk b (h.ltA hx) λho=>by rw[(hO b ho).1]at hx;cases hx];exact e1,e2⟩
theorem OwnV.fra{n:Int}{o:Option Nat}(h:OwnV T w M A el e n o x)(f:FraM B w M A w' M' A')(hB:∀b,o=some b->¬B b):OwnV T w' M' A' el e n o x:=by
 cases o with
 |none=>exact h
 |some b=>
  obtain⟨n',cap,cs,rfl,h1,h2,h3,h4,h5,h6⟩:=h;have hl:=h1.lt;refine⟨n',cap,cs,rfl,?_,h2,h3,h4,λo y hy=>?_,?_⟩
  ·unfold Blk at h1⊢;rw[f.blk b hl (hB b V) h6];exact h1
  ·rcases f.M b o y hy with h7|h7|h7
   ·exact h5 o y h7
   ·exact absurd h7 (hB b V)
   ·omega
  ·cases h7:A' b with
   |none=>rfl
   |some y=>rcases f.A b y h7 with h8|h8;rw[h6]at h8;cases h8;omega
theorem ListAt.mono'(hM:DD M M')(hA:Fb A A'){u:LV}(h:ListAt T M A u x):ListAt T M' A' u x:=by
 obtain⟨a,cap,h1,h2,h3⟩:=h;refine⟨a,cap,h1,h2,h3.imp id ?_⟩;rintro⟨h4,h5,h6,h7⟩;exact⟨h4,h5,h6,RepL.mono hM hA _ _ _ _ _ h7⟩
theorem Ad9(wok:WOK w M A){u:LV}{o:Option Nat}(he:u.e=e)(hu:ListAt T M A u x)(h:OwnV T w M A el e u.l.length o x):∃xs,Thaw T w M A el e u.l x xs/\x.ownBlock=o:=by
 subst he;obtain⟨a,cap,rfl,h1,h2⟩:=hu;cases o with
 |none=>
  have h:Value.slice a u.l.length cap= .slice none 0 0:=h;simp only[Value.slice.injEq]at h;obtain⟨rfl,h3,rfl⟩:=h;have hl:u.l=[]:=E2 h3;rw[hl];exact⟨[],⟨World.ownsRow_nil _ _ _ _,RowsV.nil,λb hb=>by simp[Value.ownBlock]at hb⟩,rfl⟩
 |some b=>
  obtain⟨n',cap',cs,h3,h4,h5,h6,h7,h8,h9⟩:=h;simp only[Value.slice.injEq]at h3;obtain⟨rfl,rfl,rfl⟩:=h3;have hle:u.l.length*(T u.e).cells.length<=cs.length:=by rw[h5];exact EL _ (by exact_mod_cast h6)
  have hxl:(cs.take (u.l.length*(T u.e).cells.length)).length=u.l.length*(T u.e).cells.length:=by rw[HO];omega
  have hin:∀o y,M b o=some y->(cs.take (u.l.length*(T u.e).cells.length))[o]? =some y:=by
   intro o y hy;have e1:=h8 o y hy;have e2:=(wok.hM b o y hy).1;rw[h4.cell]at e2;rw[Ea,if_pos (by exact_mod_cast e1)];exact e2
  refine⟨cs.take (u.l.length*(T u.e).cells.length),⟨⟨hxl,.inr ⟨b,cap,cs.toArray,rfl,AW _,h4,by exact_mod_cast h6,h7,by simp[h5],by simp⟩⟩,?_,λb' hb=>?_⟩,rfl⟩
  ·rcases h2 with h2|⟨e1,e2,e3,e4⟩
   ·rw[h2];simp only[DS,Mo,HQ];exact RowsV.nil
   ·simp only[Option.some.injEq,Addr.mk.injEq]at e1;obtain⟨e5,e6,_⟩:=e1;rw[<-e5,<-e6]at e4;obtain⟨c2,f1,f2⟩:=RepL.cells e4;refine RowsV.of e4 hxl λi y hi=>?_;have hlt:i<c2.length:=by rw[f1,<-hxl];exact(C3.1 hi).1
    obtain⟨z,hz⟩:∃z,c2[i]? =some z:=⟨_,Bm hlt⟩;have f3:=f2 i z hz;have f4:=hin _ _ f3;rw[BO]at f4⊢;rw[hi]at f4;cases f4;rw[BO]at f3;exact f3
  ·simp only[Value.ownBlock,Option.some.injEq]at hb;subst hb;exact⟨h9,h4.lt,hin⟩
end
theorem VE(T:Ar)(e:Nat):∀{l:List (List CV)}{i:Nat}{r:List CV} (r':List CV),l[i]? =some r->Az T (l.set i r') e=Az T l e-Az T [r] e+Az T [r'] e
 |x::l,0,r,r',h=>by simp at h;subst h;simp only[Rz,Az];omega
 |x::l,i+1,r,r',h=>by
  simp only[Mf]at h;simp only[Ry,Az,VE T e r' h];omega
variable{r:List CV}{i:Nat}{l:List (List CV)}
theorem Aav(T:Ar)(e:Nat)(h:l[i]? =some r):Az T [r] e<=Az T l e:=Aau T e h
section
variable{M:AT}{A:AV}
theorem PJ:(eT 24).cells=[.int .i64 0,.str 250000 250000 250000,.str 250000 250000 250000,.fz 5 1,.int .i64 0,.int .i64 0]:=rfl
theorem VP:(eT 6).cells=[.bool 1,.str 250000 250000 250000,.fz 5 1,.str 250000 250000 250000,.int .i64 0,.int .i64 0,.fz 6 1]:=rfl
theorem Ac9:(eT 25).cells=[.kd 0,.str 0 0 0,.str 0 0 1,.int .i64 0]:=rfl
variable{cs:List Value}
theorem T5(h:RowV eT M A r (eT 24).cells cs):∃(k:Int) (n t:ByteArray) (a:List (List CV)) (va:Value) (ln co:Int),r=[.int k,.str n,.str t,.fz a,.int ln,.int co]/\
 cs=[.int .i64 k,.string n,.string t,va,.int .i64 ln,.int .i64 co]/\n.size<=maxLen/\t.size<=maxLen/\RepC eT M A (.fz a) (.fz 5 1) va/\Bs .i64 k/\Bs .i64 ln/\Bs .i64 co:=by
 rw[PJ]at h;have hr:r.length=6:=h.len.2;have hx:cs.length=6:=h.len.1;match r,cs,hr,hx,h with
 |[c0,c1,c2,c3,c4,c5],[x0,x1,x2,x3,x4,x5],_,_,h=>
  simp only[RowV]at h;obtain⟨h0,h1,h2,h3,h4,h5,_⟩:=h;cases c0<;>simp only[RepC]at h0;cases c1<;>simp only[RepC]at h1;cases c2<;>simp only[RepC]at h2;cases c4<;>simp only[RepC]at h4;cases c5<;>simp only[RepC]at h5;have h3':=h3;cases c3<;>simp only[RepC]at h3';obtain⟨rfl,i0⟩:=h0;obtain⟨rfl,i1⟩:=h1;obtain⟨rfl,i2⟩:=h2;obtain⟨rfl,i4⟩:=h4;obtain⟨rfl,i5⟩:=h5;exact⟨_,_,_,_,_,_,_,rfl,rfl,i1,i2,h3,i0,i4,i5⟩
theorem Ary(h:RowV eT M A r (eT 6).cells cs):∃(c0 c1 c2 c4 c5 c6:CV) (t:ByteArray) (x0 x1 x2 x4 x5 x6:Value),r=[c0,c1,c2,.str t,c4,c5,c6]/\cs=[x0,x1,x2,.string t,x4,x5,x6]:=by
 rw[VP]at h;have hr:r.length=7:=h.len.2;have hx:cs.length=7:=h.len.1;match r,cs,hr,hx,h with
 |[c0,c1,c2,c3,c4,c5,c6],[x0,x1,x2,x3,x4,x5,x6],_,_,h=>
  simp only[RowV]at h;obtain⟨h0,h1,h2,h3,h4,h5,_⟩:=h;cases c3<;>simp only[RepC]at h3;obtain⟨rfl,i3⟩:=h3;exact⟨_,_,_,_,_,_,_,_,_,_,_,_,_,rfl,rfl⟩
theorem Ava(h:RowV eT M A r (eT 25).cells cs):∃(k:Int) (n t:ByteArray) (u:Int),r=[.kd k,.str n,.str t,.int u]/\cs=[.int .i64 k,.string n,.string t,.int .i64 u]/\t.size<=maxLen/\Bs .i64 k/\Bs .i64 u:=by
 rw[Ac9]at h;have hr:r.length=4:=h.len.2;have hx:cs.length=4:=h.len.1;match r,cs,hr,hx,h with
 |[c0,c1,c2,c3],[x0,x1,x2,x3],_,_,h=>
  simp only[RowV]at h;obtain⟨h0,h1,h2,h3,_⟩:=h;cases c0<;>simp only[RepC]at h0;cases c1<;>simp only[RepC]at h1;cases c2<;>simp only[RepC]at h2;cases c3<;>simp only[RepC]at h3;obtain⟨rfl,i0⟩:=h0;obtain⟨rfl,i1⟩:=h1;obtain⟨rfl,i2⟩:=h2;obtain⟨rfl,i3⟩:=h3;exact⟨_,_,_,_,rfl,rfl,i2,i0,i3⟩
end
theorem Anh(k:Int)(n t:ByteArray)(a:List (List CV))(ln co:Int):Az eT [[.int k,.str n,.str t,.fz a,.int ln,.int co]] 24=250010+CF 250000 250000 250000 n.size+CF 250000 250000 250000 t.size+1+Az eT a 5:=by
 simp only[Az,PJ,CP,Bl,EP,show(eT 24).base=250010 from rfl,if_true];omega
theorem Aa5(c0:Bool)(n t:ByteArray)(a l:List (List CV))(ln co:Int):Az eT [[.bool c0,.str n,.fz a,.str t,.int ln,.int co,.fz l]] 6=250000+1+CF 250000 250000 250000 n.size+(1+Az eT a 5)+CF 250000 250000 250000 t.size+(1+Az eT l 6):=by
 simp only[Az,VP,CP,Bl,EP,show(eT 6).base=250000 from rfl,if_true];omega
theorem QI(k:Int)(n t:ByteArray)(u:Int):Az eT [[.kd k,.str n,.str t,.int u]] 25=t.size:=by
 simp only[Az,Ac9,CP,Bl,EP,CF,show(eT 25).base=0 from rfl,if_true];split<;>split<;>omega
theorem Arx(c0 c1 c2 c4 c5 c6:CV)(t u:ByteArray):Az eT [[c0,c1,c2,.str (t++u),c4,c5,c6]] 6<=Az eT [[c0,c1,c2,.str t,c4,c5,c6]] 6+250000*u.size/\250000*(t.size:Int)<=Az eT [[c0,c1,c2,.str t,c4,c5,c6]] 6:=by
 have h0:=FD eT c0 (.bool 1);have h1:=FD eT c1 (.str 250000 250000 250000);have h2:=FD eT c2 (.fz 5 1);have h4:=FD eT c4 (.int .i64 0);have h5:=FD eT c5 (.int .i64 0);have h6:=FD eT c6 (.fz 6 1);simp only[Az,VP,CP,show(eT 6).base=250000 from rfl]at*;simp only[Bl,CF,LZ]at*;refine⟨?_,?_⟩<;>(repeat' split)<;>omega
section
variable{w0 w w':World}{M0 M M':AT}{A0 A A':AV}{B C:Nat->Prop}
structure HS(B:Nat->Prop)(w0:World)(M0:AT)(A0:AV)(w:World)(M:AT)(A:AV):Prop where
 mle:DD M0 M
 ale:Fb A0 A
 wok:WOK w M A
 fra:FraM B w0 M0 A0 w M A
theorem HS.start(h:WOK w M A):HS B w M A w M A:=⟨λ_ _ _ h=>h,λ_ _ h=>h,h,FraM.refl⟩
theorem HS.step(h:HS B w0 M0 A0 w M A)(hM:DD M M')(hA:Fb A A')(wok:WOK w' M' A')(f:FraM C w M A w' M' A')(hC:∀b,C b->B b\/w0.heap.size<=b):HS B w0 M0 A0 w' M' A':=
 ⟨λb o x hx=>hM b o x (h.mle b o x hx),λb x hx=>hA b x (h.ale b x hx),wok,h.fra.trans f hC⟩
variable{cs:List Value}{b t:Nat}
theorem RefB.fra(h:RefB w M A t b cs)(f:FraM C w M A w' M' A')(hC:¬C b):RefB w' M' A' t b cs:=by
 have hl:=h.blk.lt;refine⟨?_,h.one,λo=>?_,?_⟩
 ·have:=h.blk;unfold Blk at this⊢;rw[f.blk b hl hC h.A];exact this
 ·cases h1:M' b o with
  |none=>rfl
  |some y=>
   rcases f.M b o y h1 with h2|h2|h2
   ·rw[h.M o]at h2;cases h2
   ·exact absurd h2 hC
   ·omega
 ·cases h1:A' b with
  |none=>rfl
  |some y=>
   rcases f.A b y h1 with h2|h2
   ·rw[h.A]at h2;cases h2
   ·omega
theorem HS.alloc(h:HS B w0 M0 A0 w M A)(t:Nat)(h1:∀x∈cs,x.oneCell'=true):∃w',w'=w.alloc (.cells cs.toArray t)/\HS B w0 M0 A0 w' M A/\FraM (λ_=>False) w M A w' M A/\RefB w' M A t w.heap.size cs/\w0.heap.size<=w.heap.size:=by
 have f:Fr (λ_=>False) w (λ_=>False) (w.alloc (.cells cs.toArray t)):=Fr.alloc _ _ _;have g:FraM (λ_=>False) w M A (w.alloc (.cells cs.toArray t)) M A:=FraM.ofFr f λ_ h=>h;refine⟨_,rfl,h.step (λ_ _ _ h=>h) (λ_ _ h=>h) (h.wok.ofFr f λ_ h=>h.elim) g λ_ h=>h.elim,g,⟨Cf,h1,λo=>?_,?_⟩,h.fra.size⟩
 ·cases hx:M w.heap.size o with
  |none=>rfl
  |some y=>exact absurd (h.wok.lt hx) (RG _)
 ·cases hx:A w.heap.size with
  |none=>rfl
  |some y=>exact absurd (h.wok.ltA hx) (RG _)
theorem HS.put(h:HS B w0 M0 A0 w M A)(hr:RefB w M A t b cs)(hb:w0.heap.size<=b){ds:List Value}(h1:∀x∈ds,x.oneCell'=true):∃w',w'=w.setRow b ds.toArray/\HS B w0 M0 A0 w' M A/\FraM (λx=>x=b) w M A w' M A/\RefB w' M A t b ds:=by
 have f:Fr (λx=>x=b) w (λx=>x=b) (w.setRow b ds.toArray):=Fr.setRow _ rfl;have g:FraM (λx=>x=b) w M A (w.setRow b ds.toArray) M A:=FraM.ofFr f λ_ h=>h;have wk:=h.wok.ofFr f λx hx=>by subst hx;exact⟨hr.A,hr.M⟩
 exact⟨_,rfl,h.step (λ_ _ _ h=>h) (λ_ _ h=>h) wk g λx hx=>.inr (by subst hx;exact hb),g,⟨hr.blk.setRow _,h1,hr.M,hr.A⟩⟩
end
variable{cs:List Value}{n k b:Nat}{w:World}{P:Program}
theorem Kv{m:Env}{fn:Func}{t t':Tmp}{ty:Nat}{R:Ending->World->Prop}{a:Act}{v':Value}(hres:fn.results=#[.cell t ty,.tmp t'])(ha:Go.Sx.Loc n [] m a)(hv:m.get t=some (ptr b))(hv':m.get t'=some v')
 (ht:AC P ty true k) (hl:cs.length=k) (hb:Blk w b cs ty) (h:R (.returned (.tuple #[.agg cs.toArray,v'])) w):bodyPost P fn R .ret a w:=by
 refine bodyPost_ret (v:=.tuple #[.agg cs.toArray,v']) ?_ ha.defers h;have e1:a.tmps.getD t undef=ptr b:=by simp[HL,ha.slot t _ hv]
 have e2:a.tmps.getD t' undef=v':=by simp[HL,ha.slot t' _ hv']
 have:=Abv (P:=P) (fn:=fn) (tmps:=a.tmps) (w:=w) (rs:=[.cell t ty,.tmp t']) hres (xs:=[.agg cs.toArray,v']) ⟨by
  have hld:=AS (P:=P) ht hl hb.all;simp only[Iy,e1,ptr,asAddr,Sem.run_bind,Sem.run_pure,Result.andThen_ok];exact hld,e2,trivial⟩
 exact this
variable{t cap u:Nat}
theorem Acu{e' sz:Nat}(hu:P.underlying u=some (.slice e'))(hb:Blk w b cs t)(hl:cs.length=n*sz)(h1:∀x∈cs,x.oneCell'=true):Src P sz u (.slice (some ⟨b,0,none⟩) n cap) n cs w where
 kind:=.inl ⟨e',hu⟩
 len:=λw'=>by simp[Builtin.lenOf]
 cells:=run_firstCells_some w sz n ⟨b,0,none⟩ n cap cs hl (λj x hj=>by rw[Addr.add_lit,BO,hb.cell];exact hj)
 cellsD:=run_firstCells_some w.drew sz n ⟨b,0,none⟩ n cap cs hl (λj x hj=>by
  rw[Addr.add_lit,BO];have:=hb.cell j;rw[hj]at this;exact this)
 newsLen:=hl
 one:=h1
variable{o:Nat}{A:AV}{M:AT}
theorem Auj(wok:WOK w M A){e' sz:Nat}(hu:P.underlying u=some (.slice e'))(hl:cs.length=n*sz)(hc:∀j x,cs[j]? =some x->M b (o+j)=some x):Src P sz u (.slice (some ⟨b,o,none⟩) n cap) n cs w where
 kind:=.inl ⟨e',hu⟩
 len:=λw'=>by simp[Builtin.lenOf]
 cells:=run_firstCells_some w sz n ⟨b,o,none⟩ n cap cs hl (λj x hj=>by rw[Addr.add_lit];exact(wok.hM _ _ _ (hc j x hj)).1)
 cellsD:=run_firstCells_some w.drew sz n ⟨b,o,none⟩ n cap cs hl (λj x hj=>by rw[Addr.add_lit];exact(wok.hM _ _ _ (hc j x hj)).1)
 newsLen:=hl
 one:=λx hx=>by
  obtain⟨j,hj⟩:=Mh hx;exact(wok.hM _ _ _ (hc j x hj)).2.2
theorem Ab4{t:TypeId}{x y:ByteArray}(h:x.size+y.size<=maxLen):(binOp .add t (.string x) (.string y)).run P w= .ok (.string (x++y)) w:=by
 have hn:¬((x.size+y.size:Nat):Int)>IntKind.i64.max:=by
  have:IntKind.i64.max=9223372036854775807:=by decide
  have hm:=VD;omega
 simp only[binOp,Op.stringOp,if_neg hn];rfl
section
variable{T:Ar}{w w':World}{M M':AT}{A A':AV}
variable{y:Value}
theorem Auh(h:o<cs.length):Ci cs o [y]=cs.set o y:=by
 rw[Xp,if_pos h];simp[Ci]
variable{c:CV}{e el g:Nat}{xs:List Value}{x:Value}
theorem Thaw.set(h:Thaw T w M A el e l x xs)(wok:WOK w M A)(hx:x= .slice (some ⟨g,0,none⟩) l.length cap)(hfree:∀o,M g o=none)
 {q:Nat} (hr:l[i]? =some r) {t:CT} (ht:(T e).cells[q]? =some t)  (hy:RepC T M A c t y) (hinv:InvR T e (r.set q c) i) {tid:TypeId} (hty:AC P tid false 1) (hyv:y.cells=[y].toArray):
 ∃w',(storeVar tid ⟨g,i*(T e).cells.length+q,none⟩ y).run P w= .ok () w'/\Thaw T w' M A el e (l.set i (r.set q c)) x (xs.set (i*(T e).cells.length+q) y)/\WOK w' M A/\FraM (λb=>b=g) w M A w' M A:=by
 have hrows:=h.rows.set hr ht hy (by rw[BO];exact hinv);have hone:=RepC.one hy;have hq:=(C3.1 ht).1;have hi:=(C3.1 hr).1;have hlt:i*(T e).cells.length+q<l.length*(T e).cells.length:=by
  have:(i+1)*(T e).cells.length<=l.length*(T e).cells.length:=EL _ hi;rw[Dq]at this;omega
 subst hx;obtain⟨b1,b2,b3⟩:=h.blk g rfl;rcases h.row.2 with⟨h0,_⟩|⟨g',cap',cur,h1,_,h3,h4,h5,h6,h7⟩
 ·cases h0
 ·simp only[Value.slice.injEq,Option.some.injEq,Addr.mk.injEq]at h1;obtain⟨⟨rfl,_⟩,_,rfl⟩:=h1;have hB:Blk w g cur.toList el:=by unfold Blk;simpa using h3
  have hle:l.length*(T e).cells.length<=cur.toList.length:=by
   rw[show cur.toList.length=cap*(T e).cells.length from FH.trans h6];exact EL _ h4
  have hst:=CG (P:=P) (w:=w) (o:=i*(T e).cells.length+q) (vs:=[y]) hty hyv rfl (by simpa using hone) hB (by simp only[Cg,DS];omega);rw[Auh (by omega)]at hst;have f:Fr (λb=>b=g) w (λb=>b=g) (w.setRow g (cur.toList.set (i*(T e).cells.length+q) y).toArray):=Fr.setRow _ rfl;refine⟨_,hst,⟨⟨hrows.1,.inr ⟨g,cap,(cur.toList.set (i*(T e).cells.length+q) y).toArray,by simp,AW _,hB.setRow _,by simpa using h4,h5,by simpa using h6,?_⟩⟩,hrows,λb hb=>?_⟩,wok.ofFr f λb hb=>by subst hb;exact⟨b1,hfree⟩,FraM.ofFr f λ_ h=>h⟩
  ·simp only[List.length_set,List.take_set];rw[h7]
  ·simp only[Value.ownBlock,Option.some.injEq]at hb;subst hb;exact⟨b1,by simpa using b2,λo y hy=>by rw[hfree o]at hy;cases hy⟩
variable{C:Nat->Prop}
theorem Thaw.fra(h:Thaw T w M A el e l x xs)(hM:DD M M')(hA:Fb A A')(f:FraM C w M A w' M' A')(hC:∀b,x.ownBlock=some b->¬C b):Thaw T w' M' A' el e l x xs:=by
 refine⟨⟨h.row.1,?_⟩,h.rows.mono hM hA,λb hb=>?_⟩
 ·rcases h.row.2 with h0|⟨g,cap,cur,rfl,h2,h3,h4⟩
  ·exact .inl h0
  ·obtain⟨b1,b2,_⟩:=h.blk g rfl;exact .inr ⟨g,cap,cur,rfl,h2,by rw[f.blk g b2 (hC g V) b1];exact h3,h4⟩
 ·obtain⟨b1,b2,b3⟩:=h.blk b hb;refine⟨?_,BB b2 f.size,λo y hy=>?_⟩
  ·cases h1:A' b with
   |none=>rfl
   |some y=>rcases f.A b y h1 with h2|h2;rw[b1]at h2;cases h2;omega
  ·rcases f.M b o y hy with h1|h1|h1
   ·exact b3 o y h1
   ·exact absurd h1 (hC b hb)
   ·omega
end
variable{xs:List Value}
theorem RL{l:List A7}{ps:List PA}{css:List (List Value)}(h:PAVs (.agg l::ps) xs css):∃c xs' css',xs= .agg c.toArray::xs'/\css=c::css'/\c.length=l.length/\PAVs ps xs' css':=by
 cases xs with
 |nil=>cases css<;>simp[PAVs]at h
 |cons x xs=>
  cases css with
  |nil=>simp[PAVs]at h
  |cons c css=>
   obtain⟨h1,h2⟩:=h;obtain⟨h3,h4⟩:=h1;exact⟨c,xs,css,by rw[h3],rfl,h4,h2⟩
theorem V5{α:Type}{l:List α}(h:l.length=3):∃a b c,l=[a,b,c]:=by
 match l,h with
 |[a,b,c],_=>exact⟨a,b,c,rfl⟩
theorem Fa:AC prog 190 true 3:=⟨isAgg190,sizeOf190⟩
theorem Il:Ax prog 190 0 0:=fA underlying190 rfl sizeOf114 rfl rfl
theorem T8:Ax prog 190 1 1:=fA underlying190 rfl sizeOf3 rfl rfl
theorem JW:Ax prog 190 2 2:=fA underlying190 rfl sizeOf3 rfl rfl
theorem Ja:Ax prog 114 0 0:=fA underlying114 rfl sizeOf112 rfl rfl
theorem by224{u:LV}{L:Value}{o:Int}{ok:Con->Int->Prop}(hC:∀con',con'∈con 224->Hd prog eT 224 con' (ok con'))(h0:∀c,c.layer=0->ok c 0)(wok:WOK w M A)(hu:u.e=25)(hL:ListAt eT M A u L)(ho:0<=o)(ho2:o<u.l.length)(hn:u.l.length<=65536):
 Calls prog 224 [.agg #[L],.int .i64 o].toArray w (Go.Sx.End (λr w'=>∃(d:Int) (M':AT) (A':AV),r= .int .i64 d/\DD M M'/\Fb A A'/\WOK w' M' A'/\FraM (λ_=>False) w M A w' M' A') λ_ _=>False):=by
 have hm:c224[0]'(by decide)∈con 224:=Ca _;refine(hC _ hm w M A [.agg #[L],.int .i64 o] [Cd eT 25 u.l,Bv o] none [] [[L],[.int .i64 o]] [none,none] ⟨wok,⟨⟨⟨rfl,rfl⟩,rfl,trivial⟩,rfl,rfl⟩,⟨⟨u,hu,hL,rfl⟩,⟨rfl,rfl,?_⟩,trivial⟩,?_,?_⟩ (h0 _ V)).mono ?_
 ·simp only[Bv,Bs,Cq,C1];omega
 ·simp[D5,B8,BQ,PA.pats,By,c224,Con.pats]
 ·intro t ht;simp only[c224,EK,Ao,AB,or_false]at ht;rcases ht with rfl|rfl|rfl<;>simp[Tm.den,Cd,Bv]<;>omega
 ·intro e w' he;cases e with
  |outgrown=>exact he
  |panicked=>exact he
  |returned r=>
   obtain⟨post,hp,M',A',Y,Z,rcs',css',ros,PO⟩:=he;simp only[c224,EK,Ao,AB,or_false]at hp;subst hp;obtain⟨c,hc,hr⟩:=PO.res;have hr:c=[r]:=hr;subst hc hr;obtain⟨x,xs,s,S,o,os,e1,rfl,rfl,hx,_⟩:=PVs.cons1 PO.vals;simp only[E3,Rs,FW,List.cons.injEq]at e1;obtain⟨rfl,_⟩:=e1;refine⟨s.n,M',A',hx.2.1,PO.mle,PO.ale,PO.wok,PO.fra.weak λb hb=>?_⟩;simp[Eo,B8,BQ,PA.pats,By,c224,Con.pats]at hb
variable{C B:Nat->Prop}
theorem HS.weak{w0:World}{M0:AT}{A0:AV}(h:HS B w0 M0 A0 w M A)(hB:∀b,B b->C b):HS C w0 M0 A0 w M A:=⟨h.mle,h.ale,h.wok,h.fra.weak hB⟩
theorem LH{vs:List Value}(ht:AC P t true k)(hb:Blk w b cs t)(hc:cs.length=k)(hv:vs.length=k)(h1:∀x∈vs,x.oneCell'=true):(storeVar t ⟨b,0,none⟩ (.agg vs.toArray)).run P w= .ok () (w.setRow b vs.toArray):=by
 have:=CG (P:=P) (v:=.agg vs.toArray) ht rfl hv h1 hb (o:=0) (by omega);rwa[show Ci cs 0 vs=vs by simp[Ci,hc,hv]]at this
theorem Ats{k u:Int}{n t:ByteArray}:(Instr.build 188 #[(0,.int .i64 k),(1,.string n),(2,.string t),(3,.int .i64 u)]).run prog w= .ok (.agg [.int .i64 k,.string n,.string t,.int .i64 u].toArray) w:=by
 simp[Instr.build,zeroValue188,runUnderlying188,Value.cells,Instr.fill,sizeOf3,sizeOf9]
theorem At_(hc:cs.length=4):(Instr.buildSlice 112 1 #[(0,.agg cs.toArray)]).run prog w= .ok (.slice (some ⟨w.heap.size,0,none⟩) 1 1) (w.alloc (.cells cs.toArray 188)):=by
 obtain⟨bytes,he,_⟩:∃bytes,K_ prog 188 4 bytes/\bytes<=4096:=Ps (by kernel_rfl);exact W3 underlying112 he (by decide) (by decide) V hc
theorem J_:AC prog 112 false 1:=⟨isAgg112,sizeOf112⟩
theorem Bo:AC prog 3 false 1:=AQ
theorem EZ{a:Option Addr}{o b:Int}:∀x∈[Value.slice a n cap,.int .i64 o,.int .i64 b],x.oneCell'=true:=by
 intro x hx;simp only[Ao,AB,or_false]at hx;rcases hx with rfl|rfl|rfl<;>rfl
variable{j:Nat}
theorem Au_{k u:Int}{n t:ByteArray}(h1:u<j)(h2:DY k<=u+1):InvR eT 25 [.kd k,.str n,.str t,.int u] j:=by
 intro f hf;rw[show(eT 25).inv=[⟨-1,[(1000,1),(3,-1)]⟩,⟨1,[(3,1),(0,-1)]⟩]from rfl]at hf;simp only[Ao,AB,or_false]at hf;rcases hf with rfl|rfl<;>simp[LE.ev,C5,CV.n]<;>omega
theorem Aul:∀c∈Eu,FZ prog eT con 173 c:=by
 intro c hc w M A xs S rb rcs css os E hC;simp only[Eu,Ao,AB,or_false]at hc;subst hc;obtain⟨wok,args,vals,sep,facts⟩:=E;obtain⟨ha,rfl,rfl⟩:PAVs [.agg [.own 188 25,.int .i64,.int .i64],.one .kd,.one .str,.one .str] xs css/\rcs=[]/\rb=none:=args;obtain⟨c0,xs1,css1,rfl,rfl,hl0,ha1⟩:=RL ha;obtain⟨x1,xs2,css2,rfl,rfl,ha2⟩:=PAVs.cons1 ha1;obtain⟨x2,xs3,css3,rfl,rfl,ha3⟩:=PAVs.cons1 ha2;obtain⟨x3,xs4,css4,rfl,rfl,ha4⟩:=PAVs.cons1 ha3;obtain⟨rfl,rfl⟩:=PAVs.nil ha4;obtain⟨L,vo,vb,rfl⟩:=V5 hl0;have vals:PVs eT w M A [.own 188 25,.int .i64,.int .i64,.kd,.str,.str] [L,vo,vb,x1,x2,x3] S os:=vals;obtain⟨y0,ys0,s0,S0,o0,os0,e0,rfl,rfl,p0,v0⟩:=PVs.cons1 vals;obtain⟨y1,ys1,s1,S1,o1,os1,rfl,rfl,rfl,p1,v1⟩:=PVs.cons1 v0;obtain⟨y2,ys2,s2,S2,o2,os2,rfl,rfl,rfl,p2,v2⟩:=PVs.cons1 v1;obtain⟨y3,ys3,s3,S3,o3,os3,rfl,rfl,rfl,p3,v3⟩:=PVs.cons1 v2;obtain⟨y4,ys4,s4,S4,o4,os4,rfl,rfl,rfl,p4,v4⟩:=PVs.cons1 v3;obtain⟨y5,ys5,s5,S5,o5,os5,rfl,rfl,rfl,p5,v5⟩:=PVs.cons1 v4;obtain⟨rfl,rfl,rfl⟩:=PVs.nil v5;simp only[List.cons.injEq,Gc]at e0;obtain⟨rfl,rfl,rfl,rfl,rfl,rfl⟩:=e0;clear vals v0 v1 v2 v3 v4 v5 ha ha1 ha2 ha3 ha4 hl0;obtain⟨⟨u,hu,hL,hs0⟩,hO⟩:=p0;obtain⟨hs1,rfl,hin1⟩:=p1;obtain⟨hs2,rfl,hin2⟩:=p2;obtain⟨hs3,rfl,hin3⟩:=p3;obtain⟨hs4,nm,rfl,_,hnm⟩:=p4;obtain⟨hs5,tx,rfl,hs5n,htx⟩:=p5;have hn0:s0.n=u.l.length:=by rw[hs0];rfl
 have hm0:s0.m=Az eT u.l 25:=by rw[hs0];rfl
 have hm3:s3.m=DY s3.n:=by rw[hs3]
 rw[hn0]at hO;simp[Tm.den]at facts;obtain⟨g1,g2,g3,g4,g5,g6,g7,g8⟩:=facts;rw[hn0]at g2 g3;rw[hm0]at g6;rw[hm3]at g8;obtain⟨a,cap,rfl,hlm,hr⟩:=id hL;generalize hvo:s1.n=vo at*;generalize hvb:s2.n=vb at*;generalize hvk:s3.n=k at*
 --what is answered
 have fin:∀(post:Hh) (L':Value) (u':LV) (o':Option Nat) (b' e:Int) (w':World) (M':AT) (A':AV),post∈[(Eu[0]'(by decide)).posts[0]'(by decide),(Eu[0]'(by decide)).posts[1]'(by decide)]->HS (λx=>o0=some x) w M A w' M' A'->u'.e=25->ListAt eT M' A' u' L'->OwnV eT w' M' A' 188 25 u'.l.length o' L'->
  (o'=o0\/∀b,o'=some b->w.heap.size<=b)->Bs .i64 b'->Bs .i64 e->(∀t∈post.facts,0<=t.den ([s0,s1,s2,s3,s4,s5]++[Cd eT 25 u'.l,Bv vo,Bv b',Bv e]++[]))->
  ∃post∈(Eu[0]'(by decide)).posts,∃M' A' Y Z rcs' css' ros,Fw eT w M A (Eu[0]'(by decide)) [s0,s1,s2,s3,s4,s5] none [] [o0,o1,o2,o3,o4,o5] post (.tuple #[.agg [L',.int .i64 vo,.int .i64 b'].toArray,.int .i64 e]) w' M' A' Y Z rcs' css' ros:=by
  intro post L' u' o' b' e w' M' A' hp H hu' hL' hO' ho' hb' he hf;have hres:post.res=[.agg [.own 188 25,.int .i64,.int .i64],.one (.int .i64)]:=by
   simp only[Ao,AB,or_false]at hp;rcases hp with rfl|rfl<;>rfl
  have hmem:post∈(Eu[0]'(by decide)).posts:=by
   simp only[Ao,AB,or_false]at hp;rcases hp with rfl|rfl
   ·exact E4
   ·exact Ft _ E4
  refine⟨post,hmem,M',A',[Cd eT 25 u'.l,Bv vo,Bv b',Bv e],[],[],[[L',.int .i64 vo,.int .i64 b'],[.int .i64 e]],[o',none,none,none],H.mle,H.ale,H.wok,H.fra.weak λb hb=>?_,?_,?_,⟨rfl,rfl⟩,?_,?_,hf⟩
  ·simp[Eo,B8,BQ,PA.pats,By,Eu,Con.pats,hb]
  ·rw[hres];exact⟨_,rfl,⟨⟨rfl,rfl⟩,rfl,trivial⟩⟩
  ·rw[hres];exact⟨⟨⟨u',hu',hL',rfl⟩,hO'⟩,⟨rfl,rfl,hin1⟩,⟨rfl,rfl,hb'⟩,⟨rfl,rfl,he⟩,trivial⟩
  ·rw[hres];simp[D5,B8,BQ,PA.pats,By]
  ·intro b hb;rw[hres]at hb;simp[B8,BQ,PA.pats,By]at hb;rcases ho' with rfl|ho'
   ·left;simp[Eo,B8,BQ,PA.pats,By,Eu,Con.pats,hb]
   ·exact .inr (ho' b hb.symm)
 have hob:∀b,o0=some b->b<w.heap.size:=by
  intro b hb;subst hb;obtain⟨_,_,cs,_,h1,_⟩:=hO;exact h1.lt
 refine AE 56 func173 V V V ?_;obtain⟨w1,e1,H1,f1,R4,_⟩:=(HS.start (B:=λ_=>False) wok).alloc 190 (EZ (a:=a) (n:=u.l.length) (cap:=cap) (o:=vo) (b:=vb));refine Ac (Ab (Cy (v:=.agg [Value.slice a u.l.length cap,.int .i64 vo,.int .i64 vb].toArray) V V ?_));show WL _ _ _ _ _ _ _ (w.alloc (.cells [Value.slice a u.l.length cap,.int .i64 vo,.int .i64 vb].toArray 190));rw[<-e1];generalize hb4:w.heap.size=b4 at R4⊢;obtain⟨w2,e2,H2,f2,R8,hb8⟩:=H1.alloc 190 (EZ (a:=none) (n:=0) (cap:=0) (o:=0) (b:=0));refine Ct (zeroValue190 _) V ?_;show WL _ _ _ _ _ _ _ (w1.alloc (.cells [Value.slice none 0 0,.int .i64 0,.int .i64 0].toArray 190));rw[<-e2];replace R4:=R4.fra f2 λh=>h;have hb48:b4≠w1.heap.size:=by have:=R4.blk.lt;have:=f1.size;subst e1;simp at*;omega
 generalize w1.heap.size=b8 at R8 hb8 hb48⊢;clear e1 e2 f1 f2 H1;refine Ah V V (Aj [(1,.int .i64 k),(2,.string nm),(3,.string tx),(4,ptr b4),(8,ptr b8)] ⟨V,V,V,V,V,trivial⟩ ?_);refine Ac (CM (ι:=Bool×World×AT×AV) (λi=>[(1,.int .i64 k),(2,.string nm),(3,.string tx),(4,ptr b4),(8,ptr b8),(34,.bool i.1)])
  (λi w'=>w'=i.2.1/\HS (λ_=>False) w M A w' i.2.2.1 i.2.2.2/\RefB w' i.2.2.1 i.2.2.2 190 b4 [Value.slice a u.l.length cap,.int .i64 vo,.int .i64 vb]/\RefB w' i.2.2.1 i.2.2.2 190 b8 [Value.slice none 0 0,.int .i64 0,.int .i64 0]/\(i.1=false->u.l.length<65536/\(tx.size:Int)<=1048576-vb)) ?_ ?_)
 ·refine Ab (Ad V (Il _ _ _) V (Ad V (Ja _ _ _) V (Ae V (Ai J_ (v:=Value.slice a u.l.length cap) (by rw[R4.blk.cell];rfl)) V (AI V (AM underlying112) V ?_))));refine Al V V (NJ (c:=decide (65536<=u.l.length)) (BM.2 (by omega))) V (Aa V V ?_);by_cases hn:65536<=u.l.length
  ·rw[decide_eq_true hn];exact KP _ _ _ V (A2 λa ha=>Ak ⟨(true,w2,M,A),ha.weak ⟨V,V,V,V,V,V,trivial⟩,rfl,H2,R4,R8,λh=>by cases h⟩)
  rw[decide_eq_false hn];refine A9 (j:=5) V V V (Aa V V (A9 (j:=5) V V V (Al V V (I1 (c:=!decide (k=2)) V) V (A9 (j:=5) V V V (Aa V V ?_)))));cases hk:!decide (k=2)with
  |false=>
   refine Cz (j:=8) V V V V V (Cz (j:=8) V V V V V (Cz (j:=8) V V V V V (Cz (j:=8) V V V V V (Cz (j:=8) V V V V V (Cz (j:=8) V V V V V ?_)))));refine A9 (j:=5) V V V (BW V V V (BW V V V (Aa V V ?_)));refine A9 (j:=17) V V V (Aa V V (A9 (j:=17) V V V (AI V (GR underlying9) V (A9 (j:=17) V V V (Ad V (JW _ _ _) V (A9 (j:=17) V V V (Ae V (Ai Bo (v:=.int .i64 vb) (by rw[R4.blk.cell];rfl)) V ?_)))))));refine A9 (j:=17) V V V (Al V V (L_ (by unfold AP;omega)) V (A9 (j:=17) V V V (Al V V (D2 (c:=decide (1048576-vb<(tx.size:Int))) V) V (BW V V V ?_))));exact A2 λa ha=>Ak ⟨(decide (1048576-vb<(tx.size:Int)),w2,M,A),ha.weak ⟨V,V,V,V,V,V,trivial⟩,rfl,H2,R4,R8,λh=>⟨by omega,by have:=B2 h;omega⟩⟩
  |true=>
   refine A9 (j:=8) V V V (Ad V (Il _ _ _) V (A9 (j:=8) V V V (Ae V (AS (cs:=[Value.slice a u.l.length cap]) ⟨isAgg114,sizeOf114⟩ rfl (R4.blk.at_ 0 1)) V ?_)));refine A9 (j:=8) V V V (Ad V (T8 _ _ _) V (A9 (j:=8) V V V (Ae V (Ai Bo (v:=.int .i64 vo) (by rw[R4.blk.cell];rfl)) V ?_)));refine A9 (j:=8) V V V (Af call224 V V (by224 (λcon' h=>hC 224 con' h) ?_ H2.wok hu (hL.mono' H2.mle H2.ale) (by omega) (by omega) (by omega)) ?_ Am)
   ·intro c hc;left;rw[hc];decide
   rintro _ w3 ⟨d,M3,A3,rfl,l1,l2,wok3,f3⟩;have H3:=H2.step l1 l2 wok3 f3 λ_ h=>h.elim;replace R4:=R4.fra f3 λh=>h;replace R8:=R8.fra f3 λh=>h;refine A9 (j:=8) V V V (Al V V (NJ (c:=decide (200<=d)) V) V (A9 (j:=5) V V V (BW V V V (BW V V V (Aa V V ?_)))));cases decide (200<=d)with
   |true=>exact KP _ _ _ V (A2 λa ha=>Ak ⟨(true,w3,M3,A3),ha.weak ⟨V,V,V,V,V,V,trivial⟩,rfl,H3,R4,R8,λh=>by cases h⟩)
   |false=>
    refine A9 (j:=17) V V V (Aa V V (A9 (j:=17) V V V (AI V (GR underlying9) V (A9 (j:=17) V V V (Ad V (JW _ _ _) V (A9 (j:=17) V V V (Ae V (Ai Bo (v:=.int .i64 vb) (by rw[R4.blk.cell];rfl)) V ?_)))))));refine A9 (j:=17) V V V (Al V V (L_ (by unfold AP;omega)) V (A9 (j:=17) V V V (Al V V (D2 (c:=decide (1048576-vb<(tx.size:Int))) V) V (BW V V V ?_))));exact A2 λa ha=>Ak ⟨(decide (1048576-vb<(tx.size:Int)),w3,M3,A3),ha.weak ⟨V,V,V,V,V,V,trivial⟩,rfl,H3,R4,R8,λh=>⟨by omega,by have:=B2 h;omega⟩⟩
 ·rintro⟨c,w4,M4,A4⟩ w' ⟨hw,H,R4,R8,hc⟩;simp only at hw H R4 R8 hc⊢;obtain rfl:w4=w':=hw.symm;have hOw:=hO.fra H.fra λ_ _ h=>h;have hLw:=hL.mono' H.mle H.ale;refine AN V (λht=>?_) (λhf=>AG λ_ ha=>Ak (A6 ha ?_))
  ·obtain⟨w5,e5,H5,f5,R8'⟩:=H.put R8 (by omega) (EZ (a:=a) (n:=u.l.length) (cap:=cap) (o:=vo) (b:=vb));refine Ac (Ab (Ae V (AS Fa V R4.blk.all) V (An V V (LH Fa R8.blk V V EZ) ?_)));rw[<-e5];refine Ah V V (Ag (AJ λa ha=>C9 (Kv V ha V V Fa V R8'.blk (fin _ _ u o0 vb 2 w5 M4 A4 (Ft _ E4) (H5.weak λ_ h=>h.elim) hu hLw (hOw.fra f5 λb hb=>by have:=hob b hb;omega) (.inl V) hin2 (by simp[Bs,Cq,C1]) ?_))));intro t ht;simp only[Eu,EK,Oz,Ao,AB,or_false]at ht;rcases ht with rfl|rfl|rfl|rfl|rfl|rfl|rfl|rfl<;>simp[Tm.den,Cd,Bv,hn0,hvo]<;>omega
  ·obtain⟨hn,htl⟩:=hc hf;have hbo:∀b,o0=some b->b<b4/\b<b8:=λb hb=>by have:=hob b hb;omega
   obtain⟨w5,e5,H5,f5,R5⟩:=H.put R4 (by omega) (EZ (a:=a) (n:=u.l.length) (cap:=cap) (o:=vo) (b:=vb+tx.size));refine Ac (Ab (Ad V (JW _ _ _) V (Ae V (Ai Bo (v:=.int .i64 vb) (by rw[R4.blk.cell];rfl)) V (Aa V V (AI V (GR underlying9) V (Al V V (NI (by unfold AP;omega)) V ?_))))));refine Ad V (JW _ _ _) V (An V V (CG (vs:=[.int .i64 (vb+tx.size)]) Bo V V (by simp[Value.oneCell']) R4.blk (by simp)) ?_);show WL _ _ _ _ _ _ _ (w4.setRow b4 [Value.slice a u.l.length cap,.int .i64 vo,.int .i64 (vb+tx.size)].toArray);rw[<-e5];replace R8:=R8.fra f5 (λh=>hb48 h.symm);refine Ag (Ac (Ab (Ad V (Il _ _ _) V (Ad V (Ja _ _ _) V (Ae V (Ai J_ (v:=Value.slice a u.l.length cap) (by rw[R5.blk.cell];rfl)) V (Aa V V (Aa V V (Aa V V ?_))))))));refine Ad V (T8 _ _ _) V (Ae V (Ai Bo (v:=.int .i64 vo) (by rw[R5.blk.cell];rfl)) V (EB V Ats V ?_));obtain⟨w6,e6,H6,f6,RN,_⟩:=H5.alloc 188 (cs:=[.int .i64 k,.string nm,.string tx,.int .i64 vo]) (by
    intro x hx;simp only[Ao,AB,or_false]at hx;rcases hx with rfl|rfl|rfl|rfl<;>rfl)
   refine BR V (At_ V) V ?_;rw[<-e6];generalize w5.heap.size=bn at RN⊢;have hO6:=(hOw.fra f5 λb hb=>by have:=hbo b hb;omega).fra f6 λ_ _ h=>h;replace R4:=R5.fra f6 λh=>h;replace R8:=R8.fra f6 λh=>h;clear R5;obtain⟨xs,Th,hxo⟩:=Ad9 H6.wok hu hLw hO6;obtain⟨ti,hti,hd⟩:∃ti,ty 112=some ti/\ti.d= .slice 188:=⟨_,rfl,rfl⟩;obtain⟨te,hte,hs1',hs2',hs3'⟩:∃te,ty 188=some te/\te.size=4/\0<te.bytes/\te.bytes<=4096:=⟨_,rfl,rfl,by decide,by decide⟩;obtain⟨z,w7,hrun,Th7,wok7,hz⟩:=RP (P:=prog) (T:=eT) (e:=25) QQ (u:=112) (ot:=112) hti hd hte hs1' hs2' H6.wok Th (l2:=[[.kd k,.str nm,.str tx,.int vo]]) (Acu (n:=1) (cap:=1) (sz:=(eT 25).cells.length) underlying112 RN.blk rfl RN.one)
    (X4 ⟨⟨rfl,hin3⟩,⟨rfl,hnm⟩,⟨rfl,htx⟩,⟨rfl,hin1⟩,trivial⟩ (Au_ (by omega) (by omega))) (by
     have h1:u.l.length+1<=65536:=by omega
     exact AX (JI h1 hs3') (by decide))
   have hzb:∀b,z.ownBlock=some b->o0=some b\/w6.heap.size<=b:=by
    intro b hb;rcases hz with⟨_,h2⟩|⟨_,h2⟩
    ·left;rw[<-hxo,<-h2];exact hb
    ·right;rw[h2]at hb;cases hb;exact Ay _
   have f7:FraM (λb=>o0=some b) w6 M4 A4 w7 M4 A4:=by
    rcases hz with⟨h1,_⟩|⟨h1,_⟩
    ·rw[hxo]at h1;exact FraM.grown h1
    ·exact(FraM.grown h1).weak λb hb=>by cases hb
   have hlm7:(u.l++[[CV.kd k,.str nm,.str tx,.int vo]]).length<=maxLen:=by simp[maxLen];omega
   obtain⟨M8,hM8,wok8,⟨u',hu',hul,hL8⟩,hO8,hM8b⟩:=Th7.freeze wok7 (by decide) hlm7;have f8:FraM (λb=>z.ownBlock=some b) w7 M4 A4 w7 M8 A4:=⟨rfl,rfl,rfl,Ay _,λ_ _ _ _=>rfl,λb o x hx=>(hM8b b o x hx).imp id .inl,λ_ _ h=>.inl h⟩;have h46:b4<w6.heap.size:=R4.blk.lt;have h86:b8<w6.heap.size:=R8.blk.lt;have hsz6:=H6.fra.size;have hz4:z.ownBlock≠some b4:=λh=>by rcases hzb _ h with h|h;have:=hbo _ h;omega;omega
   have hz8:z.ownBlock≠some b8:=λh=>by rcases hzb _ h with h|h;have:=hbo _ h;omega;omega
   have H8:HS (λx=>o0=some x) w M A w7 M8 A4:=((H6.weak (C:=λx=>o0=some x) λ_ h=>h.elim).step (λ_ _ _ h=>h) (λ_ _ h=>h) wok7 f7 λb hb=>.inl hb).step hM8 (λ_ _ h=>h) wok8 f8 λb hb=>(hzb b hb).imp id λh=>by omega
   replace R4:=(R4.fra f7 (λh=>by have:=hbo _ h;omega)).fra f8 hz4;replace R8:=(R8.fra f7 (λh=>by have:=hbo _ h;omega)).fra f8 hz8;have hln:(u'.l.length:Int)=u.l.length+1:=by rw[hul];simp
   have hmw:Az eT u'.l 25=Az eT u.l 25+tx.size:=by rw[hul,Ju,QI]
   rw[<-hul]at hO8;obtain⟨a',cap',hzz,_,_⟩:=id hL8;refine CX V V hrun V ?_;subst hzz;obtain⟨w8,e8,H9,f9,R9⟩:=H8.put R4 (by omega) (EZ (a:=a') (n:=u'.l.length) (cap:=cap') (o:=vo) (b:=vb+tx.size));refine Ad V (Il _ _ _) V (Ad V (Ja _ _ _) V (An V V (CG (vs:=[Value.slice a' u'.l.length cap']) J_ V V (by simp[Value.oneCell']) R4.blk (by simp)) ?_));show WL _ _ _ _ _ _ _ (w7.setRow b4 [Value.slice a' u'.l.length cap',.int .i64 vo,.int .i64 (vb+tx.size)].toArray);rw[<-e8];replace R8:=R8.fra f9 (λh=>hb48 h.symm);have hO9:=hO8.fra f9 λb hb h=>hz4 (by rw[hb,h]);obtain⟨w9,e9,HA,fA',RA⟩:=H9.put R8 (by omega) (EZ (a:=a') (n:=u'.l.length) (cap:=cap') (o:=vo) (b:=vb+tx.size));refine Ag (Ac (Ab (Ae V (AS Fa V R9.blk.all) V (An V V (LH Fa R8.blk V V EZ) ?_))));rw[<-e9];refine Ah V V (Ag (AJ λa ha=>Kv V ha V V Fa V RA.blk (fin _ _ u' _ (vb+tx.size) 0 w9 M8 A4 E4 HA hu' hL8 (hO9.fra fA' λb hb h=>hz8 (by rw[hb,h])) ?_ ?_ (by simp[Bs,Cq,C1]) ?_)))
   ·by_cases h0:(Value.slice a' u'.l.length cap').ownBlock=o0
    ·exact .inl h0
    ·right;intro b hb;rcases hzb b hb with h1|h1
     ·exact absurd (hb.trans h1.symm) h0
     ·omega
   ·simp only[Bs,Cq,C1];omega
   intro t ht;simp only[Eu,EK,Ao,AB,or_false]at ht;rcases ht with rfl|rfl|rfl|rfl|rfl|rfl|rfl|rfl|rfl|rfl<;>simp[Tm.den,Cd,Bv,hn0,hvo,hln,hmw]<;>omega
theorem by221{tx:ByteArray}{ok:Con->Int->Prop}(hC:∀con',con'∈con 221->Hd prog eT 221 con' (ok con'))(h0:∀c,c.layer=2->ok c 0)(wok:WOK w M A)(hm:tx.size<=maxLen)(ht:tx.size<=2000000):
 Calls prog 221 [.string tx].toArray w (Go.Sx.End (λr w'=>∃(d:Bool) (M':AT) (A':AV),r= .bool d/\DD M M'/\Fb A A'/\WOK w' M' A'/\FraM (λ_=>False) w M A w' M' A') λ_ _=>False):=by
 have hmem:c221[0]'(by decide)∈con 221:=Ca _;refine(hC _ hmem w M A [.string tx] [Bv tx.size] none [] [[.string tx]] [none] ⟨wok,⟨⟨V,trivial⟩,rfl,rfl⟩,⟨⟨rfl,tx,rfl,rfl,hm⟩,trivial⟩,?_,?_⟩ (h0 _ V)).mono ?_
 ·simp[D5,B8,BQ,PA.pats,By,c221,Con.pats]
 ·intro t ht;simp only[c221,EK,Ao,AB,or_false]at ht;rcases ht with rfl<;>simp[Tm.den,Bv]<;>omega
 ·intro e w' he;cases e with
  |outgrown=>exact he
  |panicked=>exact he
  |returned r=>
   obtain⟨post,hp,M',A',Y,Z,rcs',css',ros,PO⟩:=he;simp only[c221,EK,Ao,AB,or_false]at hp;subst hp;obtain⟨c,hc,hr⟩:=PO.res;have hr:c=[r]:=hr;subst hc hr;obtain⟨x,xs,s,S,o,os,e1,rfl,rfl,hx,_⟩:=PVs.cons1 PO.vals;simp only[E3,Rs,FW,List.cons.injEq]at e1;obtain⟨rfl,_⟩:=e1;obtain⟨_,d,hd⟩:=hx;refine⟨d,M',A',hd,PO.mle,PO.ale,PO.wok,PO.fra.weak λb hb=>?_⟩;simp[Eo,B8,BQ,PA.pats,By,c221,Con.pats]at hb
theorem Are:(Instr.buildSlice 112 0 #[]).run prog w= .ok (.slice (some ⟨w.heap.size,0,none⟩) 0 0) (w.alloc (.cells ([]:List Value).toArray 188)):=by
 have hr:Array.range 0=#[]:=rfl;simp[Instr.buildSlice,runUnderlying112,sizeOf188,Instr.fill,newRow,hr]
theorem PN(h:(k,o)=(0,0)\/(k,o)=(2,2)\/(k,o)=(3,3)):Ax prog 188 k o:=by
 rcases h with h|h|h<;>cases h
 ·exact fA underlying188 V sizeOf3 V V
 ·exact fA underlying188 V sizeOf9 V V
 ·exact fA underlying188 V sizeOf3 V V
theorem QO:AC prog 188 true 4:=⟨isAgg188,sizeOf188⟩
theorem I5:AC prog 9 false 1:=AK
theorem Auk:∀c∈If,FZ prog eT con 171 c:=by
 intro c hc w M A xs S rb rcs css os E hC;simp only[If,Ao,AB,or_false]at hc;subst hc;obtain⟨wok,args,vals,sep,facts⟩:=E;obtain⟨ha,rfl,rfl⟩:PAVs [.agg [.own 188 25,.int .i64,.int .i64],.one .str] xs css/\rcs=[]/\rb=none:=args;obtain⟨c0,xs1,css1,rfl,rfl,hl0,ha1⟩:=RL ha;obtain⟨x1,xs2,css2,rfl,rfl,ha2⟩:=PAVs.cons1 ha1;obtain⟨rfl,rfl⟩:=PAVs.nil ha2;obtain⟨L,vo,vb,rfl⟩:=V5 hl0;have vals:PVs eT w M A [.own 188 25,.int .i64,.int .i64,.str] [L,vo,vb,x1] S os:=vals;obtain⟨y0,ys0,s0,S0,o0,os0,e0,rfl,rfl,p0,v0⟩:=PVs.cons1 vals;obtain⟨y1,ys1,s1,S1,o1,os1,rfl,rfl,rfl,p1,v1⟩:=PVs.cons1 v0;obtain⟨y2,ys2,s2,S2,o2,os2,rfl,rfl,rfl,p2,v2⟩:=PVs.cons1 v1;obtain⟨y3,ys3,s3,S3,o3,os3,rfl,rfl,rfl,p3,v3⟩:=PVs.cons1 v2;obtain⟨rfl,rfl,rfl⟩:=PVs.nil v3;simp only[List.cons.injEq,Gc]at e0;obtain⟨rfl,rfl,rfl,rfl⟩:=e0;clear vals v0 v1 v2 v3 ha ha1 ha2 hl0;obtain⟨⟨u,hu,hL,hs0⟩,hO⟩:=p0;obtain⟨hs1,rfl,hin1⟩:=p1;obtain⟨hs2,rfl,hin2⟩:=p2;obtain⟨hs3,tx,rfl,hs3n,htx⟩:=p3;have hn0:s0.n=u.l.length:=by rw[hs0];rfl
 have hm0:s0.m=Az eT u.l 25:=by rw[hs0];rfl
 rw[hn0]at hO;simp[Tm.den]at facts;obtain⟨g1,g2,g3,g4,g5,g6,g7⟩:=facts;rw[hn0]at g2 g3;rw[hm0]at g6;obtain⟨a,cap,rfl,hlm,hr⟩:=id hL;generalize hvo:s1.n=vo at*;generalize hvb:s2.n=vb at*;obtain⟨n,hn⟩:∃n,u.l.length=n+1:=⟨u.l.length-1,by omega⟩
 --what is answered
 have fin:∀(L':Value) (u':LV) (o':Option Nat) (p' b' e:Int) (w':World) (M':AT) (A':AV),HS (λx=>o0=some x) w M A w' M' A'->u'.e=25->ListAt eT M' A' u' L'->OwnV eT w' M' A' 188 25 u'.l.length o' L'->
  (o'=o0\/∀b,o'=some b->w.heap.size<=b)->Bs .i64 e->0<=p'->p'<u'.l.length->u'.l.length<=65536->0<=b'->b'<=1048576->Az eT u'.l 25<=b'->
  ∃post∈(If[0]'(by decide)).posts,∃M' A' Y Z rcs' css' ros,Fw eT w M A (If[0]'(by decide)) [s0,s1,s2,s3] none [] [o0,o1,o2,o3] post (.tuple #[.agg [L',.int .i64 p',.int .i64 b'].toArray,.int .i64 e]) w' M' A' Y Z rcs' css' ros:=by
  intro L' u' o' p' b' e w' M' A' H hu' hL' hO' ho' he k1 k2 k3 k4 k5 k6;refine⟨_,E4,M',A',[Cd eT 25 u'.l,Bv p',Bv b',Bv e],[],[],[[L',.int .i64 p',.int .i64 b'],[.int .i64 e]],[o',none,none,none],H.mle,H.ale,H.wok,H.fra.weak λb hb=>?_,⟨_,rfl,⟨⟨rfl,rfl⟩,rfl,trivial⟩⟩,
   ⟨⟨⟨u',hu',hL',rfl⟩,hO'⟩,⟨rfl,rfl,?_⟩,⟨rfl,rfl,?_⟩,⟨rfl,rfl,he⟩,trivial⟩,⟨rfl,rfl⟩,?_,?_,?_⟩
  ·simp[Eo,B8,BQ,PA.pats,By,If,Con.pats,hb]
  ·simp only[Bv,Bs,Cq,C1];omega
  ·simp only[Bv,Bs,Cq,C1];omega
  ·simp[D5,B8,BQ,PA.pats,By]
  ·intro b hb;simp[B8,BQ,PA.pats,By]at hb;rcases ho' with rfl|ho'
   ·left;simp[Eo,B8,BQ,PA.pats,By,If,Con.pats,hb]
   ·exact .inr (ho' b hb.symm)
  ·intro t ht;simp only[Ao,AB,or_false]at ht;rcases ht with rfl|rfl|rfl|rfl|rfl|rfl<;>simp[Tm.den,Cd,Bv]<;>omega
 have hob:∀b,o0=some b->b<w.heap.size:=by
  intro b hb;subst hb;obtain⟨_,_,cs,_,h1,_⟩:=hO;exact h1.lt
 refine AE 78 func171 V V V ?_;obtain⟨w1,e1,H1,f1,R2,_⟩:=(HS.start (B:=λ_=>False) wok).alloc 190 (EZ (a:=a) (n:=u.l.length) (cap:=cap) (o:=vo) (b:=vb));refine Ac (Ab (Cy (v:=.agg [Value.slice a u.l.length cap,.int .i64 vo,.int .i64 vb].toArray) V V ?_));show WL _ _ _ _ _ _ _ (w.alloc (.cells [Value.slice a u.l.length cap,.int .i64 vo,.int .i64 vb].toArray 190));rw[<-e1];generalize hb2:w.heap.size=b2 at R2⊢;obtain⟨w2,e2,H2,f2,R4,hb4⟩:=H1.alloc 190 (EZ (a:=none) (n:=0) (cap:=0) (o:=0) (b:=0));refine Ct (zeroValue190 _) V ?_;show WL _ _ _ _ _ _ _ (w1.alloc (.cells [Value.slice none 0 0,.int .i64 0,.int .i64 0].toArray 190));rw[<-e2];replace R2:=R2.fra f2 λh=>h;have hb24:b2≠w1.heap.size:=by have:=R2.blk.lt;have:=f1.size;subst e1;simp at*;omega
 generalize w1.heap.size=b4 at R4 hb4 hb24⊢;clear e1 e2 f1 f2 H1;have hbo:∀b,o0=some b->b<b2/\b<b4:=λb hb=>by have:=hob b hb;omega
 refine Ah V V (Aj [(1,.string tx),(2,ptr b2),(4,ptr b4)] ⟨V,V,V,trivial⟩ ?_);refine Ac (Ac (Ab (Aa V V (Af call221 V V (by221 (λcon' h=>hC 221 con' h) ?_ H2.wok htx (by omega)) ?_ Am))))
 ·intro c hc;left;rw[hc];decide
 rintro _ w3 ⟨d,M3,A3,rfl,l1,l2,wok3,f3⟩;have H3:=H2.step l1 l2 wok3 f3 λ_ h=>h.elim;replace R2:=R2.fra f3 λh=>h;replace R4:=R4.fra f3 λh=>h;clear H2 f3 l1 l2 wok3
 --s,as it was
 have asis:∀(w':World) (e:Int),Fr K0 w3 K0 w'->Bs .i64 e->∃w'',(storeVar 190 ⟨b4,0,none⟩ (.agg [Value.slice a u.l.length cap,.int .i64 vo,.int .i64 vb].toArray)).run prog w'= .ok () w''/\Blk w'' b4 [Value.slice a u.l.length cap,.int .i64 vo,.int .i64 vb] 190/\
  ∃post∈(If[0]'(by decide)).posts,∃M' A' Y Z rcs' css' ros,Fw eT w M A (If[0]'(by decide)) [s0,s1,s2,s3] none [] [o0,o1,o2,o3] post (.tuple #[.agg [Value.slice a u.l.length cap,.int .i64 vo,.int .i64 vb].toArray,.int .i64 e]) w'' M' A' Y Z rcs' css' ros:=by
  intro w' e f he;have fM:FraM (λ_=>False) w3 M3 A3 w' M3 A3:=FraM.ofFr f λ_ h=>h;have H':=H3.step (λ_ _ _ h=>h) (λ_ _ h=>h) (H3.wok.fr f) fM λ_ h=>h.elim;have R4':=R4.fra fM λh=>h;obtain⟨w5,e5,H5,f5,R5⟩:=H'.put R4' (by omega) (EZ (a:=a) (n:=u.l.length) (cap:=cap) (o:=vo) (b:=vb));refine⟨w5,by rw[e5];exact LH Fa R4'.blk V V EZ,R5.blk,fin _ u o0 vo vb e w5 M3 A3 (H5.weak λ_ h=>h.elim) hu (hL.mono' H5.mle H5.ale) (hO.fra H5.fra λ_ _ h=>h) (.inl V) he g1 (by omega) (by omega) g4 (by omega) (by omega)⟩
 have load2:∀w',Fr K0 w3 K0 w'->(loadVar 190 ⟨b2,0,none⟩).run prog w'= .ok (.agg [Value.slice a u.l.length cap,.int .i64 vo,.int .i64 vb].toArray) w':=λw' f=>AS Fa rfl (R2.fra (FraM.ofFr f λ_ h=>h:FraM (λ_=>False) w3 M3 A3 w' M3 A3) λh=>h).blk.all;refine HZ V V (Ag (AN V (λht=>?_) (λhf=>AG λ_ ha=>Ak (A6 ha ?_))))
 ·obtain⟨w5,h1,h2,h3⟩:=asis w3 1 (Fr.refl _ _) (by simp[Bs,Cq,C1]);exact Ac (Ab (Ae V (load2 w3 (Fr.refl _ _)) V (An V V h1 (Ah V V (Ag (AJ λa ha=>C9 (Kv V ha V V Fa V h2 h3)))))))
 refine Ac (Ab (Ad V (Il _ _ _) V (Ad V (Ja _ _ _) V (Ae V (Ai J_ (v:=Value.slice a u.l.length cap) (by rw[R2.blk.cell];rfl)) V (AI V (AM underlying112) V ?_)))));refine Al V V (L_ (by unfold AP;omega)) V ?_;rw[show(u.l.length:Int)-1=n by omega];refine Ah V V (Aj [(1,.string tx),(2,ptr b2),(4,ptr b4),(6,.int .i64 n)] ⟨V,V,V,V,trivial⟩ ?_);refine Ac (Ac (Ab (Aa V V (Fg V V Wp V (Ag (AN V (λht=>?_) (λhf=>AG λ_ ha=>Ak (A6 ha ?_))))))))
 ·obtain⟨w5,h1,h2,h3⟩:=asis w3 0 (Fr.refl _ _) (by simp[Bs,Cq,C1]);exact Ac (Ab (Ae V (load2 w3 (Fr.refl _ _)) V (An V V h1 (Ah V V (Ag (AJ λa ha=>C9 (Kv V ha V V Fa V h2 h3)))))))
 --the last row
 have hne:u.l≠[]:=λh=>by rw[h]at hn;simp at hn
 obtain⟨rfl,hcap,hcm,hrep⟩:=hr.resolve_left hne;rw[hu]at hrep;obtain⟨r,hrow⟩:∃r,u.l[n]? =some r:=⟨_,Bm (by omega)⟩;obtain⟨hrr,hinv⟩:=RepL.get hrep hrow;obtain⟨cs,hcl,hcc⟩:=RepR.cells hrr;obtain⟨k,nm,t,up,rfl,rfl,htm,hink,hinu⟩:=Ava (RowV.of hrr hcl hcc);have hcell:∀w',Fr K0 w3 K0 w'->∀(j:Nat) (v:Value),[Value.int .i64 k,.string nm,.string t,.int .i64 up][j]? =some v->w'.cell? ⟨u.b,u.o+n*4+j,none⟩=some v:=λw' f j v hj=>((H3.wok.fr f).hM _ _ _ (H3.mle _ _ _ (hcc j v hj))).1;have hB2:∀w',Fr K0 w3 K0 w'->Blk w' b2 [Value.slice (some ⟨u.b,u.o,none⟩) u.l.length cap,.int .i64 vo,.int .i64 vb] 190:=λw' f=>(R2.fra (FraM.ofFr f λ_ h=>h:FraM (λ_=>False) w3 M3 A3 w' M3 A3) λh=>h).blk;refine Ac (CM (ι:=Bool×World) (λi=>[(1,.string tx),(2,ptr b2),(4,ptr b4),(6,.int .i64 n),(39,.bool i.1)]) (λi w'=>w'=i.2/\Fr K0 w3 K0 w') (Ms (Fr K0 w3 K0) FS (by kernel_rfl) ((Fr.refl K0 w3).trans (Fr.drewn 1)) ?_) ?_)
 ·refine DF V (λ_=>Il _ _ _) V (DF V (λ_=>Ja _ _ _) V (Di V (λw' f=>Ai J_ (v:=Value.slice (some ⟨u.b,u.o,none⟩) u.l.length cap) (by rw[(hB2 w' f).cell];rfl)) V (Dd V V ?_)));refine KK V V (λ_=>Dy underlying112 QO (by omega) (by omega)) V (DF V (λ_=>PN (.inl V) _ _ _) V ?_);rw[Do];refine Di V (λw' f=>Ai Bo (hcell w' f 0 _ V)) V (FX V V (v:=.bool (decide (k=3))) (λ_=>E0 V) V (Dd V V ?_));cases decide (k=3)with
  |false=>
   iterate 10 refine OC (j:=8) V V V V V ?_
   exact GG V V V (KL λa ha w' hw'=>Ak ⟨(false,w'),ha.weak ⟨V,V,V,V,V,trivial⟩,rfl,hw'⟩)
  |true=>
   refine AZ (j:=8) V V V (DF V (λ_=>Il _ _ _) V (AZ (j:=8) V V V (DF V (λ_=>Ja _ _ _) V (AZ (j:=8) V V V (Di V (λw' f=>Ai J_ (v:=Value.slice (some ⟨u.b,u.o,none⟩) u.l.length cap) (by rw[(hB2 w' f).cell];rfl)) V ?_)))));refine AZ (j:=8) V V V (Dd V V (AZ (j:=8) V V V (KK V V (λ_=>Dy underlying112 QO (by omega) (by omega)) V (AZ (j:=8) V V V (DF V (λ_=>PN (.inr (.inr V)) _ _ _) V ?_)))));rw[Do];refine AZ (j:=8) V V V (Di V (λw' f=>Ai Bo (hcell w' f 3 _ V)) V (AZ (j:=8) V V V (DF V (λ_=>T8 _ _ _) V (AZ (j:=8) V V V (Di V (λw' f=>Ai Bo (v:=.int .i64 vo) (by rw[(hB2 w' f).cell];rfl)) V ?_)))));exact AZ (j:=8) V V V (FX V V (v:=.bool (decide (up=vo))) (λ_=>E0 V) V (GG V V V (KL λa ha w' hw'=>Ak ⟨(decide (up=vo),w'),ha.weak ⟨V,V,V,V,V,trivial⟩,rfl,hw'⟩)))
 rintro⟨c,w4⟩ w' ⟨hw,f4⟩;simp only at hw f4⊢;obtain rfl:w4=w':=hw.symm;have fM4:FraM (λ_=>False) w3 M3 A3 w4 M3 A3:=FraM.ofFr f4 λ_ h=>h;have H4:=H3.step (λ_ _ _ h=>h) (λ_ _ h=>h) (H3.wok.fr f4) fM4 λ_ h=>h.elim;replace R2:=R2.fra fM4 λh=>h;replace R4:=R4.fra fM4 λh=>h;have hOw:=hO.fra H4.fra λ_ _ h=>h;have hLw:=hL.mono' H4.mle H4.ale;refine AN V (λht=>?_) (λhf=>AG λ_ ha=>Ak (A6 ha ?_))
 ·refine Ac (Ac (Ab (Aa V V (AI V (GR underlying9) V (Ad V (JW _ _ _) V (Ae V (Ai Bo (v:=.int .i64 vb) (by rw[R2.blk.cell];rfl)) V (Al V V (L_ (by unfold AP;omega)) V ?_)))))));refine Al V V (D2 (c:=decide (1048576-vb<(tx.size:Int))) V) V (Ag (AN V (λht=>?_) (λhf=>AG λ_ ha=>Ak (A6 ha ?_))))
  ·obtain⟨w5,h1,h2,h3⟩:=asis w4 2 f4 (by simp[Bs,Cq,C1]);exact Ac (Ab (Ae V (load2 w4 f4) V (An V V h1 (Ah V V (Ag (AJ λa ha=>C9 (C9 (Kv V ha V V Fa V h2 h3))))))))
  have htl:=B2 hf;have hr25:=Aav eT 25 hrow;rw[QI]at hr25;obtain⟨w5,e5,H5,f5,R5⟩:=H4.put R2 (by omega) (EZ (a:=some ⟨u.b,u.o,none⟩) (n:=u.l.length) (cap:=cap) (o:=vo) (b:=vb+tx.size));refine Ac (Ab (Ad V (JW _ _ _) V (Ae V (Ai Bo (v:=.int .i64 vb) (by rw[R2.blk.cell];rfl)) V (Aa V V (AI V (GR underlying9) V (Al V V (NI (by unfold AP;omega)) V ?_))))));refine Ad V (JW _ _ _) V (An V V (CG (vs:=[.int .i64 (vb+tx.size)]) Bo V V (by simp[Value.oneCell']) R2.blk (by simp)) ?_);show WL _ _ _ _ _ _ _ (w4.setRow b2 [Value.slice (some ⟨u.b,u.o,none⟩) u.l.length cap,.int .i64 vo,.int .i64 (vb+tx.size)].toArray);rw[<-e5];replace R4:=R4.fra f5 (λh=>hb24 h.symm);refine Ag (Ac (Ab ?_));obtain⟨w6,e6,H6,f6,RN,hbn⟩:=H5.alloc 188 (cs:=[]) (by simp);have h25:b2<w5.heap.size:=R5.blk.lt;have h45:b4<w5.heap.size:=R4.blk.lt;refine BR V Are V ?_;rw[<-e6];generalize w5.heap.size=bn at RN hbn h25 h45⊢;replace R2:=R5.fra f6 λh=>h;replace R4:=R4.fra f6 λh=>h;clear R5;have hT0:Thaw eT w6 M3 A3 188 25 [] (.slice (some ⟨bn,0,none⟩) 0 0) []:=⟨⟨by simp,.inr ⟨bn,0,#[],rfl,AW _,RN.blk,Ay _,AW _,by simp,rfl⟩⟩,RowsV.nil,λb hb=>by
   simp only[Value.ownBlock,Option.some.injEq]at hb;subst hb;exact⟨RN.A,RN.blk.lt,λo y hy=>by rw[RN.M]at hy;cases hy⟩⟩
  have hrep6:=RepL.mono H6.mle H6.ale _ _ _ _ _ hrep;obtain⟨cs2,hc1,hc2⟩:=RepL.cells hrep6;obtain⟨ti,hti,hd⟩:∃ti,ty 112=some ti/\ti.d= .slice 188:=⟨_,rfl,rfl⟩;obtain⟨te,hte,hs1',hs2',hs3'⟩:∃te,ty 188=some te/\te.size=4/\0<te.bytes/\te.bytes<=4096:=⟨_,rfl,rfl,by decide,by decide⟩;obtain⟨z,w7,hrun,Th7,wok7,hz⟩:=RP (P:=prog) (T:=eT) (e:=25) QQ (u:=112) (ot:=112) hti hd hte hs1' hs2' H6.wok hT0 (l2:=u.l) (Auj H6.wok (cap:=cap) underlying112 hc1 hc2) (RowsV.of hrep6 hc1 hc2) (by
   have h1:([]:List (List CV)).length+u.l.length<=65536:=by simp;omega
   exact AX (JI h1 hs3') (by decide))
  rw[Dh,Dh]at Th7;have hzb:∀b,z.ownBlock=some b->bn=b\/w6.heap.size<=b:=by
   intro b hb;rcases hz with⟨_,h2⟩|⟨_,h2⟩
   ·left;rw[h2]at hb;simpa[Value.ownBlock]using hb
   ·right;rw[h2]at hb;cases hb;exact Ay _
  have f7:FraM (λb=>bn=b) w6 M3 A3 w7 M3 A3:=by
   rcases hz with⟨h1,_⟩|⟨h1,_⟩
   ·exact(FraM.grown h1).weak λb hb=>by simpa[Value.ownBlock]using hb
   ·exact(FraM.grown h1).weak λb hb=>by cases hb
  have H7:=H6.step (λ_ _ _ h=>h) (λ_ _ h=>h) wok7 f7 λb hb=>.inr (by omega);refine Ad V (Il _ _ _) V (Ad V (Ja _ _ _) V (Ae V (Ai J_ (v:=Value.slice (some ⟨u.b,u.o,none⟩) u.l.length cap) (by rw[R2.blk.cell];rfl)) V (CX V V hrun V ?_)));replace R2:=R2.fra f7 (by omega);replace R4:=R4.fra f7 (by omega);obtain⟨g,cap',rfl⟩:∃g cap',z= .slice (some ⟨g,0,none⟩) u.l.length cap':=by
   rcases Th7.row.2 with⟨_,h0⟩|⟨g,cap',_,h1,_⟩
   ·omega
   ·exact⟨g,cap',h1⟩
  have hg:=hzb g rfl;have hbn6:bn<w6.heap.size:=RN.blk.lt;have hfree:∀o,M3 g o=none:=by
   intro o;rcases hg with rfl|hg
   ·exact RN.M o
   ·cases hx:M3 g o with
    |none=>rfl
    |some y=>exact absurd (H6.wok.lt hx) (by omega)
  have hlen4:(eT 25).cells.length=4:=rfl;have hcellT:w7.cell? ⟨g,n*4+2,none⟩=some (.string t):=by
   have hlt:n*4+2<cs2.length:=by rw[hc1,hlen4];omega
   obtain⟨y,hy⟩:∃y,cs2[n*4+2]? =some y:=⟨_,Bm hlt⟩;have h1:=hc2 _ _ hy;have h2:=H6.mle _ _ _ (hcc 2 _ rfl);rw[hlen4,Fe]at h2;rw[h1]at h2;cases h2;exact Th7.cells V _ _ hy
  have hts:t.size+tx.size<=maxLen:=by simp only[maxLen];omega
  have hinv':InvR eT 25 ([CV.kd k,.str nm,.str t,.int up].set 2 (.str (t++tx))) n:=by
   intro f hf;have h1:=hinv f hf;rw[show(eT 25).inv=[⟨-1,[(1000,1),(3,-1)]⟩,⟨1,[(3,1),(0,-1)]⟩]from rfl]at hf;simp only[Ao,AB,or_false]at hf;rcases hf with rfl|rfl<;>simp[LE.ev,C5,CV.n]at h1⊢<;>omega
  obtain⟨w8,hst,Th8,wok8,f8⟩:=Th7.set (P:=prog) wok7 rfl hfree hrow (q:=2) (t:=.str 0 0 1) rfl (c:=.str (t++tx)) (y:=.string (t++tx)) ⟨rfl,by rw[LZ];exact hts⟩ hinv' I5 rfl;rw[hlen4]at hst;refine Ah V V (Aj [(1,.string tx),(2,ptr b2),(4,ptr b4),(6,.int .i64 n),(7,.slice (some ⟨g,0,none⟩) u.l.length cap')] ⟨V,V,V,V,V,trivial⟩ ?_);refine Ac (Ab (Aa V V (Aa V V (Aa V V (Aa V V (AO V V (Dy underlying112 QO (by omega) (by omega)) V (Ad V (PN (.inr (.inl V)) _ _ _) V ?_)))))));rw[Do,BO];refine Ae V (Ai I5 hcellT) V (Aa V V (Fg V V (Ab4 hts) V (AO V V (Dy underlying112 QO (by omega) (by omega)) V (Ad V (PN (.inr (.inl V)) _ _ _) V ?_))));rw[Do,BO];refine An V V hst (Ag ?_);have hlm8:(u.l.set n ([CV.kd k,.str nm,.str t,.int up].set 2 (.str (t++tx)))).length<=maxLen:=by rw[List.length_set];exact hlm
  obtain⟨M9,hM9,wok9,⟨u',hu',hul,hL9⟩,hO9,hM9b⟩:=Th8.freeze wok8 (by decide) hlm8;have f9:FraM (λb=>b=g) w8 M3 A3 w8 M9 A3:=⟨rfl,rfl,rfl,Ay _,λ_ _ _ _=>rfl,λb o x hx=>(hM9b b o x hx).imp id λh=>.inl (by simpa[Value.ownBlock,eq_comm]using h),λ_ _ h=>.inl h⟩;have hsz6:=H6.fra.size;have H9:=(H7.step (λ_ _ _ h=>h) (λ_ _ h=>h) wok8 f8 λb hb=>.inr (by omega)).step hM9 (λ_ _ h=>h) wok9 f9 λb hb=>.inr (by omega);replace R2:=(R2.fra f8 (by omega)).fra f9 (by omega);replace R4:=(R4.fra f8 (by omega)).fra f9 (by omega);have hln:u'.l.length=u.l.length:=by rw[hul,List.length_set]
  have hmw:Az eT u'.l 25=Az eT u.l 25+tx.size:=by
   rw[hul,VE eT 25 _ hrow,QI];simp only[Ry,Rz];rw[QI,LZ];omega
  rw[<-hul,hln]at hO9;obtain⟨wA,eA,HA,fA',RA⟩:=H9.put R2 (by omega) (EZ (a:=some ⟨g,0,none⟩) (n:=u.l.length) (cap:=cap') (o:=vo) (b:=vb+tx.size));refine Ac (Ab (Aa V V (Ad V (Il _ _ _) V (Ad V (Ja _ _ _) V (An V V (CG (vs:=[Value.slice (some ⟨g,0,none⟩) u.l.length cap']) J_ V V (by simp[Value.oneCell']) R2.blk (by simp)) ?_)))));show WL _ _ _ _ _ _ _ (w8.setRow b2 [Value.slice (some ⟨g,0,none⟩) u.l.length cap',.int .i64 vo,.int .i64 (vb+tx.size)].toArray);rw[<-eA];replace R4:=R4.fra fA' (λh=>hb24 h.symm);have hOA:=hO9.fra fA' λb hb=>by simp only[Value.ownBlock,Option.some.injEq]at hb;omega
  obtain⟨wB,eB,HB,fB,RB⟩:=HA.put R4 (by omega) (EZ (a:=some ⟨g,0,none⟩) (n:=u.l.length) (cap:=cap') (o:=vo) (b:=vb+tx.size));refine Ag (Ac (Ab (Ae V (AS Fa V RA.blk.all) V (An V V (LH Fa R4.blk V V EZ) ?_))));rw[<-eB];refine Ah V V (Ag (AJ λa ha=>C9 (Kv V ha V V Fa V RB.blk (fin _ u' _ vo (vb+tx.size) 0 wB M9 A3 (HB.weak λ_ h=>h.elim) hu' hL9 (by rw[hln];exact hOA.fra fB λb hb=>by simp only[Value.ownBlock,Option.some.injEq]at hb;omega) (.inr λb hb=>?_) (by simp[Bs,Cq,C1]) g1 (by omega) (by omega) (by omega) (by omega) (by omega)))));simp only[Value.ownBlock,Option.some.injEq]at hb;omega
 ·have hm173:Eu[0]'(by decide)∈con 173:=Ca _;refine Ac (Ab (Ae V (load2 w4 f4) V (Aa V V (Af call173 V V (hC 173 _ hm173 w4 M3 A3 [.agg [Value.slice (some ⟨u.b,u.o,none⟩) u.l.length cap,.int .i64 vo,.int .i64 vb].toArray,.int .i64 3,.string (ByteArray.mk #[]),.string tx]
   [Cd eT 25 u.l,Bv vo,Bv vb,⟨3,DY 3,0,λ_=>0⟩,Bv 0,Bv tx.size] none [] [[Value.slice (some ⟨u.b,u.o,none⟩) u.l.length cap,.int .i64 vo,.int .i64 vb],[.int .i64 3],[.string (ByteArray.mk #[])],[.string tx]] [o0,none,none,none,none,none]
   ⟨H4.wok,⟨⟨⟨rfl,rfl⟩,rfl,rfl,rfl,trivial⟩,rfl,rfl⟩,⟨⟨⟨u,hu,hLw,rfl⟩,hOw⟩,⟨rfl,rfl,hin1⟩,⟨rfl,rfl,hin2⟩,⟨rfl,rfl,by simp[Bs,Cq,C1]⟩,⟨rfl,_,rfl,rfl,AW _⟩,⟨rfl,_,rfl,rfl,htx⟩,trivial⟩,?_,?_⟩ (.inl (by decide))) ?_ Am))))
  ·simp[D5,B8,BQ,PA.pats,By,Eu,Con.pats]
  ·intro t ht;have hp3:DY 3=0:=by simp[DY]
   simp only[Eu,EK,Ao,AB,or_false]at ht;rcases ht with rfl|rfl|rfl|rfl|rfl|rfl|rfl|rfl<;>simp[Tm.den,Cd,Bv,hp3]<;>omega
  rintro rv w5 ⟨post,hp,M5,A5,Y,Z,rcs',css',ros,PO⟩;have key:∃(L':Value) (u':LV) (o':Option Nat) (p' b' e:Int),rv= .tuple #[.agg [L',.int .i64 p',.int .i64 b'].toArray,.int .i64 e]/\u'.e=25/\ListAt eT M5 A5 u' L'/\OwnV eT w5 M5 A5 188 25 u'.l.length o' L'/\(o'=o0\/∀b,o'=some b->w4.heap.size<=b)/\
   Bs .i64 e/\0<=p'/\p'<u'.l.length/\u'.l.length<=65536/\0<=b'/\b'<=1048576/\Az eT u'.l 25<=b'/\L'.oneCell'=true:=by
   have hres:post.res=[.agg [.own 188 25,.int .i64,.int .i64],.one (.int .i64)]:=by
    simp only[Eu,EK,Ao,AB,or_false]at hp;rcases hp with rfl|rfl<;>rfl
   have hrv:=PO.res;have hvv:=PO.vals;have hoo:=PO.own;rw[hres]at hrv hvv hoo;obtain⟨xs,rfl,hpa⟩:=hrv;obtain⟨c0,xs1,css1,rfl,rfl,hl0,ha1⟩:=RL hpa;obtain⟨x1,xs2,css2,rfl,rfl,ha2⟩:=PAVs.cons1 ha1;obtain⟨rfl,rfl⟩:=PAVs.nil ha2;obtain⟨L',vp,vb',rfl⟩:=V5 hl0;have vals:PVs eT w5 M5 A5 [.own 188 25,.int .i64,.int .i64,.int .i64] [L',vp,vb',x1] Y ros:=hvv;obtain⟨y0,ys0,t0,S0,q0,os0,e0,rfl,rfl,p0,v0⟩:=PVs.cons1 vals;obtain⟨y1,ys1,t1,S1,q1,os1,rfl,rfl,rfl,p1,v1⟩:=PVs.cons1 v0;obtain⟨y2,ys2,t2,S2,q2,os2,rfl,rfl,rfl,p2,v2⟩:=PVs.cons1 v1;obtain⟨y3,ys3,t3,S3,q3,os3,rfl,rfl,rfl,p3,v3⟩:=PVs.cons1 v2;obtain⟨rfl,rfl,rfl⟩:=PVs.nil v3;simp only[List.cons.injEq,Gc]at e0;obtain⟨rfl,rfl,rfl,rfl⟩:=e0;obtain⟨⟨u',hu',hL',ht0⟩,hO'⟩:=p0;obtain⟨_,rfl,hi1⟩:=p1;obtain⟨_,rfl,hi2⟩:=p2;obtain⟨_,rfl,hi3⟩:=p3;have hone:L'.oneCell'=true:=by
    obtain⟨_,_,h,_⟩:=hL';subst h;rfl
   have hn0':t0.n=u'.l.length:=by rw[ht0];rfl
   have hm0':t0.m=Az eT u'.l 25:=by rw[ht0];rfl
   rw[hn0']at hO';refine⟨L',u',q0,t1.n,t2.n,t3.n,rfl,hu',hL',hO',?_,hi3,?_⟩
   ·cases q0 with
    |none=>right;intro b hb;cases hb
    |some b=>
     rcases hoo b (by simp[B8,BQ,PA.pats,By])with h1|h1
     ·left;simpa[Eo,B8,BQ,PA.pats,By,Eu,Con.pats]using h1
     ·right;intro b' hb';cases hb';exact h1
   ·have hf:=PO.facts;simp only[Eu,EK,Ao,AB,or_false]at hp;rcases hp with rfl|rfl<;>simp[Tm.den,Cd,Bv,hn0',hm0']at hf<;>exact⟨by omega,by omega,by omega,by omega,by omega,by omega,hone⟩
  obtain⟨L',u',o',p',b',e,rfl,hu',hL',hO',ho',he,k1,k2,k3,k4,k5,k6,hone⟩:=key;have f5:FraM (λx=>o0=some x) w4 M3 A3 w5 M5 A5:=PO.fra.weak λb hb=>by simpa[Eo,B8,BQ,PA.pats,By,Eu,Con.pats,eq_comm]using hb
  have H5:=(H4.weak (C:=λx=>o0=some x) λ_ h=>h.elim).step PO.mle PO.ale PO.wok f5 λb hb=>.inl hb;have h44:b4<w4.heap.size:=R4.blk.lt;have hob4:o'≠some b4:=λh=>by
   rcases ho' with h1|h1
   ·have:=hbo b4 (by rw[<-h1];exact h);omega
   ·have:=h1 b4 h;omega
  replace R4:=R4.fra f5 (λh=>by have:=hbo _ h;omega);have o3:∀x∈[L',Value.int .i64 p',.int .i64 b'],x.oneCell'=true:=by
   intro x hx;simp only[Ao,AB,or_false]at hx;rcases hx with rfl|rfl|rfl
   ·exact hone
   ·rfl
   ·rfl
  obtain⟨w6,e6,H6,f6,R6⟩:=H5.put R4 (by omega) o3;refine D6 V V V (D6 V V V (An V V (LH Fa R4.blk V V o3) ?_));rw[<-e6];refine Ah V V (Ag (AJ λa ha=>Kv V ha V V Fa V R6.blk (fin L' u' o' p' b' e w6 M5 A5 H6 hu' hL' (hO'.fra f6 λb hb h=>hob4 (by rw[hb,h])) ?_ he k1 k2 k3 k4 k5 k6)));rcases ho' with h|h
  ·exact .inl h
  ·have:=H4.fra.size;exact .inr λb hb=>by have:=h b hb;omega
end Go.Ck
namespace Go.Sx
section
variable{P:Program}{ops:Array Oper}{Q:Act->Prop}{rest:List Oper}{n:Nat}{ds:List Deferred}{m:Env}{w:World}{d:Nat}{ty:TypeId}{pos:String}{aft:Array Edge}
variable{t:Nat}
theorem X5{x y:Operand}{vx vy v:Value}(hx:ev m x=some vx)(hy:ev m y=some vy)(hr:∀w,(Instr.indexAt t vx vy).run P w= .ok v w)(hb:Nat.blt d n=true)
 (h:SL P ops w Q rest n ds ((d,v)::m)):SL P ops w Q (⟨some d,.indexAddr t x y,ty,pos,aft,none⟩::rest) n ds m:=
 HX rfl rfl hb (λa ha=>by simp[execOp,ha.eval hx,ha.eval hy,hr w]) h
variable{u:Nat}
theorem Aed{op:BinOp}{x y:Operand}{i j:ByteArray}{v:Value}(hx:ev m x=some (.string i))(hy:ev m y=some (.string j))
 (hr:(binOp op t (.string i) (.string j)).run P w= .ok v w) (hb:Nat.blt d n=true)
 (h:SL P ops w Q rest n ds ((d,v)::m)):SL P ops w Q (⟨some d,.binOp op t x y u,ty,pos,aft,none⟩::rest) n ds m:=
 HX rfl rfl hb (λa ha=>by
  have he:eqGuard op t x y (.string i) (.string j)=pure ():=by unfold eqGuard;cases op<;>rfl
  simp[execOp,ha.eval hx,ha.eval hy,he,hr]) h
end
end Go.Sx
namespace Go.Ck
open Go.Sx Go.Proofs Go.Proofs.Tryz
theorem QN:AC prog 109 true 6:=⟨isAgg109,sizeOf109⟩
theorem Adf:AC prog 122 true 7:=⟨isAgg122,sizeOf122⟩
theorem Avd:AC prog 107 false 1:=⟨isAgg107,sizeOf107⟩
variable{k:Nat}
theorem EO(h:k=0\/k=1\/k=2\/k=3\/k=4\/k=5):Ax prog 109 k k:=by
 rcases h with rfl|rfl|rfl|rfl|rfl|rfl
 ·exact fA underlying109 V sizeOf3 V V
 ·exact fA underlying109 V sizeOf9 V V
 ·exact fA underlying109 V sizeOf9 V V
 ·exact fA underlying109 V sizeOf107 V V
 ·exact fA underlying109 V sizeOf3 V V
 ·exact fA underlying109 V sizeOf3 V V
theorem Zl:Ax prog 122 3 3:=fA underlying122 rfl sizeOf9 rfl rfl
variable{w:World}
theorem Ath{t:ByteArray}{l c:Int}:(Instr.build 122 #[(3,.string t),(4,.int .i64 l),(5,.int .i64 c)]).run prog w= .ok (.agg [.bool false,.string (ByteArray.mk #[]),.slice none 0 0,.string t,.int .i64 l,.int .i64 c,.slice none 0 0].toArray) w:=by
 simp[Instr.build,zeroValue122,runUnderlying122,Value.cells,Instr.fill,sizeOf3,sizeOf9]
theorem Ati{n:ByteArray}{a b:Option Addr}{n1 c1 n2 c2:Nat}{l c:Int}:(Instr.build 122 #[(0,.bool true),(1,.string n),(2,.slice a n1 c1),(4,.int .i64 l),(5,.int .i64 c),(6,.slice b n2 c2)]).run prog w=
 .ok (.agg [.bool true,.string n,.slice a n1 c1,.string (ByteArray.mk #[]),.int .i64 l,.int .i64 c,.slice b n2 c2].toArray) w:=by
 simp[Instr.build,zeroValue122,runUnderlying122,Value.cells,Instr.fill,sizeOf3,sizeOf9,sizeOf4,sizeOf107,sizeOf117]
variable{cs:List Value}
theorem Aco(hc:cs.length=7):(Instr.buildSlice 117 1 #[(0,.agg cs.toArray)]).run prog w= .ok (.slice (some ⟨w.heap.size,0,none⟩) 1 1) (w.alloc (.cells cs.toArray 122)):=by
 obtain⟨bytes,he,_⟩:∃bytes,K_ prog 122 7 bytes/\bytes<=4096:=Ps (by kernel_rfl);exact W3 underlying117 he (by decide) (by decide) V hc
theorem Qs:∀(l:List (List CV)),250000*(l.length:Int)<=Az eT l 6
 |[]=>by simp[Az]
 |r::l=>by
  have h1:=Qs l;have h2:=Nw eT r (eT 6).cells;simp only[Az,show(eT 6).base=250000 from rfl,Cg];omega
theorem Zj:∀(l:List (List CV)),250010*(l.length:Int)<=Az eT l 24
 |[]=>by simp[Az]
 |r::l=>by
  have h1:=Zj l;have h2:=Nw eT r (eT 24).cells;simp only[Az,show(eT 24).base=250010 from rfl,Cg];omega
theorem Aci(n:Nat):(250000:Int)<=CF 250000 250000 250000 n:=by
 unfold CF;split<;>omega
variable{j i:Nat}
theorem Au5(l:List (List CV))(h:i<=j):Az eT (l.take i) 24<=Az eT (l.take j) 24:=by
 have:=Ko eT 24 (l.take j) i;rwa[List.take_take,O9 h]at this
variable{r:List CV}
theorem Aa4:InvR eT 6 r j:=λf hf=>by
 rw[show(eT 6).inv=[]from rfl]at hf;cases hf
variable{xs:List Value}{x:Value}{l:List (List CV)}{A:AV}{M:AT}
theorem Aa9{w0:World}{M0:AT}{A0:AV}{bn:Nat}(H:HS (λ_=>False) w0 M0 A0 w M A)(Th:Thaw eT w M A 122 6 l x xs)
 (hfresh:∀b,x.ownBlock=some b->w0.heap.size<=b/\∀o,M b o=none) (RN:RefB w M A 122 bn cs) (hr:RowV eT M A r (eT 6).cells cs) (hl:l.length<=400000):
 ∃z w',(Builtin.append_ #[117,117] 117 #[x,.slice (some ⟨bn,0,none⟩) 1 1]).run prog w= .ok z w'/\HS (λ_=>False) w0 M0 A0 w' M A/\FraM (λb=>x.ownBlock=some b) w M A w' M A/\Thaw eT w' M A 122 6 (l++[r]) z (xs++cs)/\(∀b,z.ownBlock=some b->w0.heap.size<=b/\∀o,M b o=none)/\
  (∀b,z.ownBlock=some b->x.ownBlock=some b\/w.heap.size<=b):=by
 obtain⟨ti,hti,hd⟩:∃ti,ty 117=some ti/\ti.d= .slice 122:=⟨_,rfl,rfl⟩;obtain⟨te,hte,h1,h2,h3⟩:∃te,ty 122=some te/\te.size=7/\0<te.bytes/\te.bytes<=4096:=⟨_,rfl,rfl,by decide,by decide⟩;obtain⟨z,w',hrun,Th',wok',hz⟩:=RP (P:=prog) (T:=eT) (e:=6) QQ (u:=117) (ot:=117) hti hd hte h1 h2 H.wok Th (l2:=[r]) (Acu (n:=1) (cap:=1) (sz:=(eT 6).cells.length) underlying117 RN.blk (by rw[hr.len.1,Nat.one_mul]) RN.one) (X4 hr Aa4) (by
  have h4:l.length+1<=400001:=by omega
  exact AX (JI h4 h3) (by decide))
 have hzb:∀b,z.ownBlock=some b->x.ownBlock=some b\/w.heap.size<=b:=by
  intro b hb;rcases hz with⟨_,h2⟩|⟨_,h2⟩
  ·left;rw[<-h2];exact hb
  ·right;rw[h2]at hb;cases hb;exact Ay _
 have f7:FraM (λb=>x.ownBlock=some b) w M A w' M A:=by
  rcases hz with⟨h1,_⟩|⟨h1,_⟩
  ·exact FraM.grown h1
  ·exact(FraM.grown h1).weak λb hb=>by cases hb
 have hsz:=H.fra.size;refine⟨z,w',hrun,H.step (λ_ _ _ h=>h) (λ_ _ h=>h) wok' f7 λb hb=>.inr (hfresh b hb).1,f7,Th',λb hb=>?_,hzb⟩;rcases hzb b hb with h|h
 ·exact hfresh b h
 ·refine⟨by omega,λo=>?_⟩;cases hM:M b o with
  |none=>rfl
  |some y=>exact absurd (H.wok.lt hM) (by omega)
theorem Aup:∀c∈Gg,FZ prog eT con 47 c:=by
 intro c hc w M A xs S rb rcs css os E hC;simp only[Gg,Ao,AB,or_false]at hc;subst hc;obtain⟨wok,args,vals,sep,facts⟩:=E;obtain⟨ha,rfl,rfl⟩:PAVs [.one (.fz 24),.one (.int .i64)] xs css/\rcs=[]/\rb=none:=args;obtain⟨x1,xs2,css2,rfl,rfl,ha2⟩:=PAVs.cons1 ha;obtain⟨x2,xs3,css3,rfl,rfl,ha3⟩:=PAVs.cons1 ha2;obtain⟨rfl,rfl⟩:=PAVs.nil ha3;have vals:PVs eT w M A [.fz 24,.int .i64] [x1,x2] S os:=vals;obtain⟨y0,ys0,s0,S0,o0,os0,e0,rfl,rfl,p0,v0⟩:=PVs.cons1 vals;obtain⟨y1,ys1,s1,S1,o1,os1,rfl,rfl,rfl,p1,v1⟩:=PVs.cons1 v0;obtain⟨rfl,rfl,rfl⟩:=PVs.nil v1;simp only[List.cons.injEq,Gc]at e0;obtain⟨rfl,rfl⟩:=e0;clear vals v0 v1 ha ha2 ha3;obtain⟨u,hu,hL,hs0⟩:=p0;obtain⟨hs1,rfl,hin1⟩:=p1;have hn0:s0.n=u.l.length:=by rw[hs0];rfl
 have hm0:s0.m=Az eT u.l 24:=by rw[hs0];rfl
 have hpm:∀j:Int,s0.pm j=pw eT u.l 24 j.toNat:=λj=>by rw[hs0];rfl
 simp[Tm.den]at facts;obtain⟨g1,g2,g3⟩:=facts;rw[hn0]at g2;rw[hm0]at g3;obtain⟨a,cap,rfl,hlm,hr⟩:=id hL;obtain⟨i0,hi0⟩:∃i0:Nat,s1.n=i0:=⟨s1.n.toNat,by omega⟩;rw[hi0]at g2⊢;have hlen:=Zj u.l;have hbig:EI=18446744073709551616:=rfl
 --what is answered
 have fin:∀(i:Nat) (l:List (List CV)) (x:Value) (xs:List Value) (w':World) (M':AT) (A':AV),i0<=i->i+i0<=2*u.l.length->HS (λ_=>False) w M A w' M' A'->Thaw eT w' M' A' 122 6 l x xs->(∀b,x.ownBlock=some b->w.heap.size<=b/\∀o,M' b o=none)->
  Az eT l 6+Az eT (u.l.take i0) 24<=Az eT (u.l.take i) 24->∃post∈(Gg[0]'(by decide)).posts,∃M' A' Y Z rcs' css' ros,Fw eT w M A (Gg[0]'(by decide)) [s0,s1] none [] [o0,o1] post (.tuple #[x,.int .i64 (i:Int)]) w' M' A' Y Z rcs' css' ros:=by
  intro i l x xs w' M' A' h1 h2 H Th hf hw;have hll:=Qs l;have hle:=Ko eT 24 u.l i;have hnn:=EE eT (u.l.take i0) 24;obtain⟨M2,hM2,wok2,⟨u',hu',hul,hL2⟩,_,hM2b⟩:=Th.freeze H.wok (by decide) (by simp only[maxLen];omega);have f9:FraM (λb=>x.ownBlock=some b) w' M' A' w' M2 A':=⟨rfl,rfl,rfl,Ay _,λ_ _ _ _=>rfl,λb o x hx=>(hM2b b o x hx).imp id .inl,λ_ _ h=>.inl h⟩;have H9:=H.step hM2 (λ_ _ h=>h) wok2 f9 λb hb=>.inr (hf b hb).1;refine⟨_,E4,M2,A',[Cd eT 6 u'.l,Bv i],[],[],[[x],[.int .i64 (i:Int)]],[none,none],H9.mle,H9.ale,H9.wok,H9.fra.weak λb hb=>hb.elim,⟨_,rfl,⟨V,V,trivial⟩⟩,⟨⟨u',hu',hL2,rfl⟩,⟨rfl,rfl,?_⟩,trivial⟩,⟨rfl,rfl⟩,?_,?_,?_⟩
  ·simp only[Bv,Bs,Cq,C1];omega
  ·simp[D5,B8,BQ,PA.pats,By]
  ·intro b hb;simp[B8,BQ,PA.pats,By]at hb
  ·intro t ht;have hp1:pw eT u.l 24 i=Az eT (u.l.take i) 24:=EG (by omega);have hp0:pw eT u.l 24 i0=Az eT (u.l.take i0) 24:=EG (by omega);simp only[Ao,AB,or_false]at ht;rcases ht with rfl|rfl|rfl<;>simp[Tm.den,Cd,Bv,hn0,hi0,hpm,hp1,hp0,hul]<;>omega
 refine AE 106 func47 V V V ?_;refine Ac (Ab (Ah V V (Ah V V (Ag ?_))));refine Ac (Ab (Ah V V (Ag ?_)));refine Ac (Ab (Ah V V (Ag ?_)));refine Ac (AF (BP (ι:=Nat×List (List CV)×Value×List Value×Bool×World×AT×AV) (λi=>[(0,.slice a u.l.length cap),(1,.int .i64 (i.1:Int)),(6,i.2.2.1),(7,.bool i.2.2.2.2.1)])
  (λi w'=>w'=i.2.2.2.2.2.1/\i0<=i.1/\i.1+i0<=2*u.l.length/\HS (λ_=>False) w M A w' i.2.2.2.2.2.2.1 i.2.2.2.2.2.2.2/\Thaw eT w' i.2.2.2.2.2.2.1 i.2.2.2.2.2.2.2 122 6 i.2.1 i.2.2.1 i.2.2.2.1/\
   (∀b,i.2.2.1.ownBlock=some b->w.heap.size<=b/\∀o,i.2.2.2.2.2.2.1 b o=none)/\(i.2.2.2.2.1=true->i.2.1≠[])/\Az eT i.2.1 6+Az eT (u.l.take i0) 24<=Az eT (u.l.take i.1) 24) (λi=>u.l.length-i.1)
  (i0,[],.slice none 0 0,[],false,w,M,A) ⟨V,V,V,V,trivial⟩ ⟨rfl,Ay _,by omega,HS.start wok,⟨World.ownsRow_nil _ _ _ _,RowsV.nil,λb hb=>by simp[Value.ownBlock]at hb⟩,λb hb=>by simp[Value.ownBlock]at hb,(λh=>by cases h),by simp[Az]⟩ ?_))
 rintro⟨i,l,x,xs,j,w1,M1,A1⟩ w' ⟨hw,k1,k2,H,Th,hf,hj,hwt⟩;simp only at hw k1 k2 H Th hf hj hwt⊢;obtain rfl:w1=w':=hw.symm;refine Ac (Ac (Ab (Aa V V (Aa V V (AI V (AM underlying78) V (Al V V (CR (c:=decide (i<u.l.length)) (BM.2 (by omega))) V (Aa V V ?_)))))));by_cases hlt:i<u.l.length;rotate_left
 ·rw[decide_eq_false hlt];refine KP _ _ _ V (Ag (Fz V (BC λa ha=>AD (AD (B_ (Ak (A6 ha ?_)))))));exact Ac (Ab (Aa V V (Aa V V (Ah V V (Ah V V (Ag (AJ λa ha=>GV V ha V V (fin i l x xs w1 M1 A1 k1 k2 H Th hf hwt))))))))
 rw[decide_eq_true hlt]
 --the event
 have hne:u.l≠[]:=λh=>by rw[h]at hlt;simp at hlt
 obtain⟨rfl,hcap,hcm,hrep⟩:=hr.resolve_left hne;rw[hu]at hrep;obtain⟨r,hrow⟩:∃r,u.l[i]? =some r:=⟨_,Bm hlt⟩;have hrr:=(RepL.get hrep hrow).1;obtain⟨cs,hcl,hcc⟩:=RepR.cells hrr;obtain⟨k,nm,tx,at_,va,ln,co,rfl,rfl,hnm,htx,hva,hink,hinl,hinc⟩:=T5 (RowV.of hrr hcl hcc);obtain⟨ga,ca,rfl,hla,hra⟩:∃a cap,va= .slice a at_.length cap/\at_.length<=maxLen/\(at_=[]\/∃b o,a=some ⟨b,o,none⟩/\at_.length<=cap/\cap<=maxLen/\RepL eT M A at_ 5 b o 0):=by simpa only[RepC]using hva
 have hcell:∀(j:Nat) (v:Value),[Value.int .i64 k,.string nm,.string tx,.slice ga at_.length ca,.int .i64 ln,.int .i64 co][j]? =some v->w1.cell? ⟨u.b,u.o+i*6+j,none⟩=some v:=λj v hj=>(H.wok.hM _ _ _ (H.mle _ _ _ (hcc j v hj))).1;have hstep:Az eT (u.l.take (i+1)) 24=Az eT (u.l.take i) 24+(250010+CF 250000 250000 250000 nm.size+CF 250000 250000 250000 tx.size+1+Az eT at_ 5):=by
  have h1:=Qp eT 24 hrow;have h2:=Anh k nm tx at_ ln co;simp only[Az]at h2;rw[h1];omega
 have hle1:=Ko eT 24 u.l (i+1);have hnn0:=EE eT (u.l.take i0) 24;have hatn:=EE eT at_ 5;have hsn:=Aci nm.size;have hst0:=Aci tx.size;refine A9 (j:=4) V V V (Aa V V (A9 (j:=4) V V V (Aa V V (A9 (j:=4) V V V (AO V V (Dy underlying78 QN (by omega) (by omega)) V (A9 (j:=4) V V V (Ad V (EO (.inl V) _ _ _) V ?_)))))));rw[Do];refine A9 (j:=4) V V V (Ae V (Ai Bo (hcell 0 _ V)) V (A9 (j:=4) V V V (Al V V (I1 (c:=!decide (k=1)) V) V (BW V V V (Ag ?_)))));refine AN V (λht=>AG λ_ ha=>Ak (A6 ha ?_)) (λhf'=>BC λa ha=>AD (AD (B_ (Ak (A6 ha ?_)))));rotate_left
 ·exact Ac (Ab (Aa V V (Aa V V (Ah V V (Ah V V (Ag (AJ λa ha=>GV V ha V V (fin i l x xs w1 M1 A1 k1 k2 H Th hf hwt))))))))
 have ones6:∀x∈[Value.int .i64 k,.string nm,.string tx,.slice ga at_.length ca,.int .i64 ln,.int .i64 co],x.oneCell'=true:=by
  intro x hx;simp only[Ao,AB,or_false]at hx;rcases hx with rfl|rfl|rfl|rfl|rfl|rfl<;>rfl
 refine JM [(0,.slice (some ⟨u.b,u.o,none⟩) u.l.length cap),(1,.int .i64 (i:Int)),(6,x),(7,.bool j)] ⟨V,V,V,V,trivial⟩ ?_;refine AF (Ac (Ab (Aa V V (Aa V V (AO V V (Dy underlying78 QN (by omega) (by omega)) V ?_)))));rw[Do];refine Ae V (AS (cs:=[Value.int .i64 k,.string nm,.string tx,.slice ga at_.length ca,.int .i64 ln,.int .i64 co]) QN V hcell) V (Ct (zeroValue109 _) V ?_);obtain⟨w2,e2,H2,f2,R8,hb8⟩:=H.alloc 109 (cs:=[Value.int .i64 0,.string (ByteArray.mk #[]),.string (ByteArray.mk #[]),.slice none 0 0,.int .i64 0,.int .i64 0]) (by
  intro x hx;simp only[Ao,AB,or_false]at hx;rcases hx with rfl|rfl|rfl|rfl|rfl|rfl<;>rfl)
 show WL _ _ _ _ _ _ _ (w1.alloc (.cells [Value.int .i64 0,.string (ByteArray.mk #[]),.string (ByteArray.mk #[]),.slice none 0 0,.int .i64 0,.int .i64 0].toArray 109));rw[<-e2];have hx8:∀b,x.ownBlock=some b->b<w1.heap.size:=λb hb=>(Th.blk b hb).2.1;generalize w1.heap.size=b8 at R8 hb8 hx8⊢;obtain⟨w3,e3,H3,f3,R8'⟩:=H2.put R8 hb8 ones6;refine An V V (LH QN R8.blk V V ones6) ?_;rw[<-e3];replace Th:=(Th.fra (λ_ _ _ h=>h) (λ_ _ h=>h) f2 λ_ _ h=>h).fra (λ_ _ _ h=>h) (λ_ _ h=>h) f3 λb hb h=>by have:=hx8 b hb;omega
 clear R8 e2 e3 f2 f3 H2 hcell;have R8:=R8';clear R8';refine Aj [(0,.slice (some ⟨u.b,u.o,none⟩) u.l.length cap),(1,.int .i64 (i:Int)),(6,x),(7,.bool j),(8,ptr b8)] ⟨V,V,V,V,V,trivial⟩ ?_;have hll:=Qs l;refine CM (ι:=List (List CV)×Value×List Value×World) (λq=>[(0,.slice (some ⟨u.b,u.o,none⟩) u.l.length cap),(1,.int .i64 (i:Int)),(6,q.2.1),(7,.bool j),(8,ptr b8)])
  (λq w'=>w'=q.2.2.2/\HS (λ_=>False) w M A w' M1 A1/\Thaw eT w' M1 A1 122 6 q.1 q.2.1 q.2.2.1/\(∀b,q.2.1.ownBlock=some b->w.heap.size<=b/\∀o,M1 b o=none)/\RefB w' M1 A1 109 b8 [Value.int .i64 k,.string nm,.string tx,.slice ga at_.length ca,.int .i64 ln,.int .i64 co]/\
   (∀b,q.2.1.ownBlock=some b->b≠b8)/\(j=true->q.1≠[])/\(k=2->tx≠ByteArray.mk #[]->q.1≠[])/\(k=2->Az eT q.1 6<=Az eT l 6+(250010+CF 250000 250000 250000 nm.size+CF 250000 250000 250000 tx.size+1+Az eT at_ 5))/\(k≠2->Az eT q.1 6=Az eT l 6)) ?_ ?_
 ·refine Ac (Ab (Ad V (EO (.inl V) _ _ _) V (Ae V (Ai Bo (v:=.int .i64 k) (by rw[R8.blk.cell];rfl)) V (Al V V (E0 (c:=decide (k=2)) V) V (Aa V V ?_)))));have hx8':∀b,x.ownBlock=some b->b≠b8:=λb hb h=>by have:=hx8 b hb;omega
  by_cases hk2:k=2;rotate_left
  ·rw[decide_eq_false hk2];refine KP _ _ _ V (Ag (Fz V (Ac (Ab (Ad V (EO (.inl V) _ _ _) V (Ae V (Ai Bo (v:=.int .i64 k) (by rw[R8.blk.cell];rfl)) V (Al V V (E0 (c:=false) (by simp[hk2])) V ?_)))))));refine KP _ _ _ V (Ag (Fz V (AG λa ha=>Ak ⟨(l,x,xs,w3),ha.weak ⟨V,V,V,V,V,trivial⟩,rfl,H3,Th,hf,R8,hx8',hj,λh=>absurd h hk2,λh=>absurd h hk2,λ_=>rfl⟩)))
  rw[decide_eq_true hk2];refine A9 (j:=3) V V V (Aa V V (BW V V V (Ag ?_)));cases j with
  |true=>
   refine Ga V ?_;have hl0:=hj rfl;obtain⟨n,hn⟩:∃n,l.length=n+1:=⟨l.length-1,by have:=List.length_pos_iff.2 hl0;omega⟩;obtain⟨g,cap',rfl⟩:∃g cap',x= .slice (some ⟨g,0,none⟩) l.length cap':=by
    rcases Th.row.2 with⟨_,h0⟩|⟨g,cap',_,h1,_⟩
    ·omega
    ·exact⟨g,cap',h1⟩
   have fd:FraM (λ_=>False) w3 M1 A1 (w3.drewN 1) M1 A1:=FraM.ofFr (Fr.drewn (O:=λ_=>False) 1) λ_ h=>h;have H4:=H3.step (λ_ _ _ h=>h) (λ_ _ h=>h) (H3.wok.fr (Fr.drewn 1)) fd λ_ h=>h.elim;replace Th:=Th.fra (λ_ _ _ h=>h) (λ_ _ h=>h) fd λ_ _ h=>h;replace R8:=R8.fra fd λh=>h;refine RT 16 FS (by kernel_rfl) ?_;simp only[JH,HQ,Oy,FI];generalize w3.drewN 1=w4 at H4 Th R8⊢;obtain⟨rl,hrl⟩:∃rl,l[n]? =some rl:=⟨_,Bm (by omega)⟩;obtain⟨d0,d1,d2,d4,d5,d6,t,z0,z1,z2,z4,z5,z6,rfl,hcs⟩:=Ary (Th.rows.2 n rl hrl).1;have hxt:xs[n*7+3]? =some (.string t):=by
    have h1:((xs.drop (n*7)).take 7)[3]? =some (.string t):=by
     rw[show(xs.drop (n*7)).take 7=_ from hcs];rfl
    rw[Ea,if_pos (by decide),He]at h1;exact h1
   have hcellT:=Th.cells rfl _ _ hxt;have hmore:=Arx d0 d1 d2 d4 d5 d6 t tx;have hrle:=Aav eT 6 hrl;have hts:t.size+tx.size<=maxLen:=by
    have h2:250000*(tx.size:Int)<=CF 250000 250000 250000 tx.size:=by unfold CF;split<;>omega
    simp only[maxLen];omega
   obtain⟨w5,hst,Th5,wok5,f5⟩:=Th.set (P:=prog) H4.wok rfl (hf g rfl).2 hrl (q:=3) (t:=.str 250000 250000 250000) rfl (c:=.str (t++tx)) (y:=.string (t++tx)) ⟨rfl,by rw[LZ];exact hts⟩ Aa4 I5 rfl;have hlen7:(eT 6).cells.length=7:=rfl;rw[hlen7]at hst;have hsub:∀w,(binOp .sub 3 (.int .i64 (l.length:Int)) (.int .i64 1)).run prog w= .ok (.int .i64 (n:Int)) w:=λw=>by
    have:=L_ (w:=w) (t:=3) (a:=(l.length:Int)) (b:=1) (by unfold AP;omega);rwa[show(l.length:Int)-1=n by omega]at this
   refine Fy V V (Fy V V (RM V (AM underlying117) V (OF V V (hsub _) V (Fy V V (Fy V V (RM V (AM underlying117) V (OF V V (hsub _) V ?_)))))));refine X5 V V (λ_=>Dy underlying117 Adf (by omega) (by omega)) V (FY V (λ_=>Zl _ _ _) V ?_);rw[Do,BO];refine HV V (Ai I5 hcellT) V (FY V (λ_=>EO (.inr (.inr (.inl V))) _ _ _) V (HV V (Ai I5 (v:=.string tx) (by rw[R8.blk.cell];rfl)) V (Aed V V (Ab4 hts) V ?_)));refine X5 V V (λ_=>Dy underlying117 Adf (by omega) (by omega)) V (FY V (λ_=>Zl _ _ _) V ?_);rw[Do,BO];have hg8:g≠b8:=hx8' g rfl;refine Mq (An V V hst (A2 λa ha=>Ak ⟨(_,.slice (some ⟨g,0,none⟩) l.length cap',_,w5),ha.weak ⟨V,V,V,V,V,trivial⟩,rfl,H4.step (λ_ _ _ h=>h) (λ_ _ h=>h) wok5 f5 λb hb=>.inr (by rw[hb];exact(hf g V).1),Th5,hf,R8.fra f5 (λh=>hg8 h.symm),hx8',?_,?_,?_,λh=>absurd hk2 h⟩))
   ·intro _ h;exact hl0 (by simpa using h)
   ·intro _ _ h;exact hl0 (by simpa using h)
   ·intro _;have h2:250000*(tx.size:Int)<=CF 250000 250000 250000 tx.size:=by unfold CF;split<;>omega
    simp only;rw[VE eT 6 _ hrl];simp only[Ry,Rz];omega
  |false=>
   refine Fz V (Ac (Ab (Ad V (EO (.inl V) _ _ _) V (Ae V (Ai Bo (v:=.int .i64 k) (by rw[R8.blk.cell];rfl)) V (Al V V (E0 (c:=true) (by simp[hk2])) V (Aa V V ?_))))));refine A9 (j:=3) V V V (Ad V (EO (.inr (.inr (.inl V))) _ _ _) V (A9 (j:=3) V V V (Ae V (Ai I5 (v:=.string tx) (by rw[R8.blk.cell];rfl)) V (A9 (j:=3) V V V (Fg V V Q8 V (BW V V V (Ag ?_)))))));refine AN V (λht=>?_) (λhf'=>AG λa ha=>Ak ⟨(l,x,xs,w3),ha.weak ⟨V,V,V,V,V,trivial⟩,rfl,H3,Th,hf,R8,hx8',hj,λ_ h=>?_,λ_=>by simp only;omega,λ_=>rfl⟩);rotate_left
   ·exact absurd (by simpa using hf') h
   obtain⟨w4,e4,H4,f4,RN,hbn⟩:=H3.alloc 122 (cs:=[Value.bool false,.string (ByteArray.mk #[]),.slice none 0 0,.string tx,.int .i64 ln,.int .i64 co,.slice none 0 0]) (by
    intro x hx;simp only[Ao,AB,or_false]at hx;rcases hx with rfl|rfl|rfl|rfl|rfl|rfl|rfl<;>rfl)
   refine Ab (Aa V V (Ad V (EO (.inr (.inr (.inl V))) _ _ _) V (Ae V (Ai I5 (v:=.string tx) (by rw[R8.blk.cell];rfl)) V (Ad V (EO (.inr (.inr (.inr (.inr (.inl V))))) _ _ _) V (Ae V (Ai Bo (v:=.int .i64 ln) (by rw[R8.blk.cell];rfl)) V ?_)))));refine Ad V (EO (.inr (.inr (.inr (.inr (.inr V))))) _ _ _) V (Ae V (Ai Bo (v:=.int .i64 co) (by rw[R8.blk.cell];rfl)) V (EB V Ath V (BR V (Aco V) V ?_)));rw[<-e4];have h38:b8<w3.heap.size:=R8.blk.lt;generalize w3.heap.size=bn at RN hbn h38⊢;replace Th:=Th.fra (λ_ _ _ h=>h) (λ_ _ h=>h) f4 λ_ _ h=>h;replace R8:=R8.fra f4 λh=>h;obtain⟨z,w5,hrun,H5,f5,Th5,hf5,hzb⟩:=Aa9 H4 Th hf RN (r:=[.bool false,.str (ByteArray.mk #[]),.fz [],.str tx,.int ln,.int co,.fz []]) ⟨rfl,⟨rfl,AW _⟩,⟨none,0,rfl,AW _,.inl rfl⟩,⟨rfl,htx⟩,⟨rfl,hinl⟩,⟨rfl,hinc⟩,⟨none,0,rfl,AW _,.inl rfl⟩,trivial⟩ (by omega);have h48:b8<w4.heap.size:=R8.blk.lt;refine CX V V hrun V (Ah V V (A2 λa ha=>Ak ⟨(_,z,_,w5),ha.weak ⟨V,V,V,V,V,trivial⟩,rfl,H5,Th5,hf5,R8.fra f5 (λh=>hx8' b8 h V),?_,?_,?_,?_,λh=>absurd hk2 h⟩))
   ·intro b hb;rcases hzb b hb with h|h
    ·exact hx8' b h
    ·omega
   ·intro _;simp
   ·intro _ _;simp
   ·intro _;simp only;rw[Ju,Aa5];have h0:CF 250000 250000 250000 (ByteArray.mk #[]).size=250000:=by rfl
    simp only[Az,h0];omega
 rintro⟨l2,x2,xs2,w4⟩ w' ⟨hw,H4,Th4,hf4,R4,hx84,hj4,hj5,hw4,hw5⟩;simp only at hw H4 Th4 hf4 R4 hx84 hj4 hj5 hw4 hw5⊢;obtain rfl:w4=w':=hw.symm;have hll2:=Qs l2;refine CM (ι:=Bool) (λq=>[(0,.slice (some ⟨u.b,u.o,none⟩) u.l.length cap),(1,.int .i64 (i:Int)),(6,x2),(7,.bool q),(8,ptr b8)]) (λq w'=>w'=w4/\(q=true->l2≠[])) ?_ ?_
 ·refine Ab (Ad V (EO (.inl V) _ _ _) V (Ae V (Ai Bo (v:=.int .i64 k) (by rw[R4.blk.cell];rfl)) V (Al V V (E0 (c:=decide (k=2)) V) V (Aa V V ?_))));by_cases hk2:k=2;rotate_left
  ·rw[decide_eq_false hk2];exact KP _ _ _ V (A2 λa ha=>Ak ⟨false,ha.weak ⟨V,V,V,V,V,trivial⟩,rfl,λh=>by cases h⟩)
  rw[decide_eq_true hk2];refine A9 (j:=3) V V V (Aa V V (A9 (j:=3) V V V (Aa V V ?_)));cases j with
  |true=>
   refine Cz (j:=5) V V V V V (Cz (j:=5) V V V V V (Cz (j:=5) V V V V V ?_));exact A9 (j:=3) V V V (BW V V V (BW V V V (Ah V V (A2 λa ha=>Ak ⟨true,ha.weak ⟨V,V,V,V,V,trivial⟩,rfl,λ_=>hj4 V⟩))))
  |false=>
   refine A9 (j:=5) V V V (Ad V (EO (.inr (.inr (.inl V))) _ _ _) V (A9 (j:=5) V V V (Ae V (Ai I5 (v:=.string tx) (by rw[R4.blk.cell];rfl)) V (A9 (j:=5) V V V (Fg V V Q8 V ?_)))));exact A9 (j:=3) V V V (BW V V V (BW V V V (Ah V V (A2 λa ha=>Ak ⟨!decide (tx=ByteArray.mk #[]),ha.weak ⟨V,V,V,V,V,trivial⟩,rfl,λh=>hj5 hk2 (by simpa using h)⟩))))
 rintro jn w' ⟨hw,hjn⟩;obtain rfl:w4=w':=hw.symm;refine CM (ι:=Nat×List (List CV)×Value×List Value×World×AT×AV) (λq=>[(0,.slice (some ⟨u.b,u.o,none⟩) u.l.length cap),(1,.int .i64 (q.1:Int)),(6,q.2.2.1),(7,.bool jn)])
  (λq w'=>w'=q.2.2.2.2.1/\i<=q.1/\q.1+1+i0<=2*u.l.length/\HS (λ_=>False) w M A w' q.2.2.2.2.2.1 q.2.2.2.2.2.2/\Thaw eT w' q.2.2.2.2.2.1 q.2.2.2.2.2.2 122 6 q.2.1 q.2.2.1 q.2.2.2.1/\(∀b,q.2.2.1.ownBlock=some b->w.heap.size<=b/\∀o,q.2.2.2.2.2.1 b o=none)/\(jn=true->q.2.1≠[])/\
   Az eT q.2.1 6+Az eT (u.l.take i0) 24<=Az eT (u.l.take (q.1+1)) 24) ?_ ?_
 ·refine Ac (Ab (Ad V (EO (.inl V) _ _ _) V (Ae V (Ai Bo (v:=.int .i64 k) (by rw[R4.blk.cell];rfl)) V (Al V V (E0 (c:=decide (k=0)) V) V (Ag ?_)))));refine AN V (λht=>?_) (λhf'=>AG λa ha=>Ak ⟨(i,l2,x2,xs2,w4,M1,A1),ha.weak ⟨V,V,V,V,trivial⟩,rfl,Ay _,by simp only;omega,H4,Th4,hf4,hjn,?_⟩);rotate_left
  ·simp only;by_cases hk2:k=2
   ·have:=hw4 hk2;omega
   ·have:=hw5 hk2;omega
  have hk0:k=0:=B7 ht;have hw5:=hw5 (by omega);have hm47:Gg[0]'(by decide)∈con 47:=Ca _;refine Ac (Ab (Aa V V (Aa V V (Al V V (NI (by unfold AP;omega)) V (Af call47 V V (hC 47 _ hm47 w4 M1 A1 [.slice (some ⟨u.b,u.o,none⟩) u.l.length cap,.int .i64 ((i:Int)+1)] [Cd eT 24 u.l,Bv ((i:Int)+1)] none [] [[.slice (some ⟨u.b,u.o,none⟩) u.l.length cap],[.int .i64 ((i:Int)+1)]] [none,none]
   ⟨H4.wok,⟨⟨V,V,trivial⟩,rfl,rfl⟩,⟨⟨u,hu,hL.mono' H4.mle H4.ale,rfl⟩,⟨rfl,rfl,?_⟩,trivial⟩,?_,?_⟩ (.inr ⟨rfl,?_,?_⟩)) ?_ Am)))))
  ·simp only[Bv,Bs,Cq,C1];omega
  ·simp[D5,B8,BQ,PA.pats,By,Gg,Con.pats]
  ·intro t ht;simp only[Gg,EK,Ao,AB,or_false]at ht;rcases ht with rfl|rfl|rfl<;>simp[Tm.den,Cd,Bv]<;>omega
  ·simp[Gg,Tm.den,Cd,Bv];omega
  ·simp[Gg,Tm.den,Cd,Bv,hn0,hi0];omega
  rintro rv w5 ⟨post,hp,M5,A5,Y,Z,rcs',css',ros,PO⟩;have key:∃(u2:LV) (a2:Option Addr) (c2 e:Nat),rv= .tuple #[.slice a2 u2.l.length c2,.int .i64 (e:Int)]/\RepC eT M5 A5 (.fz u2.l) (.fz 6 1) (.slice a2 u2.l.length c2)/\i+1<=e/\e+(i+1)<=2*u.l.length/\Az eT u2.l 6+Az eT (u.l.take (i+1)) 24<=Az eT (u.l.take e) 24:=by
   simp only[Gg,EK,Ao,AB,or_false]at hp;subst hp;obtain⟨xs,rfl,hpa⟩:=PO.res;obtain⟨z1,zs2,ds2,rfl,rfl,hz2⟩:=PAVs.cons1 hpa;obtain⟨z2,zs3,ds3,rfl,rfl,hz3⟩:=PAVs.cons1 hz2;obtain⟨rfl,rfl⟩:=PAVs.nil hz3;have vals:PVs eT w5 M5 A5 [.fz 6,.int .i64] [z1,z2] Y ros:=PO.vals;obtain⟨y0,ys0,t0,S0,q0,os0,e0,rfl,rfl,p0,v0⟩:=PVs.cons1 vals;obtain⟨y1,ys1,t1,S1,q1,os1,rfl,rfl,rfl,p1,v1⟩:=PVs.cons1 v0;obtain⟨rfl,rfl,rfl⟩:=PVs.nil v1;simp only[List.cons.injEq,Gc]at e0;obtain⟨rfl,rfl⟩:=e0;obtain⟨u2,hu2,⟨a2,c2,rfl,hl2,hr2⟩,ht0⟩:=p0;obtain⟨_,rfl,hi1⟩:=p1;have hf:=PO.facts;have hn1:t0.m=Az eT u2.l 6:=by rw[ht0];rfl
   have hq1:pw eT u.l 24 (i+1)=Az eT (u.l.take (i+1)) 24:=EG (by omega);have he1:((i:Int)+1).toNat=i+1:=by omega
   simp[Tm.den,Cd,Bv,hn1,he1,hq1]at hf;obtain⟨f1,f2,f3⟩:=hf;obtain⟨e,he⟩:∃e:Nat,t1.n=e:=⟨t1.n.toNat,by omega⟩;rw[he]at f1 f2 f3⊢;have hq2:pw eT u.l 24 e=Az eT (u.l.take e) 24:=EG (by omega);simp[hq2]at f3;refine⟨u2,a2,c2,e,rfl,?_,by omega,by omega,by omega⟩;simp only[RepC];refine⟨a2,c2,rfl,hl2,hr2.imp id ?_⟩;rintro⟨h1,h2,h3,h4⟩;rw[hu2]at h4;exact⟨_,_,h1,h2,h3,h4⟩
  obtain⟨u2,a2,c2,e,rfl,hin,q1,q2,q3⟩:=key;have f5:FraM (λ_=>False) w4 M1 A1 w5 M5 A5:=PO.fra.weak λb hb=>by simp[Eo,B8,BQ,PA.pats,By,Gg,Con.pats]at hb
  have H5:=H4.step PO.mle PO.ale PO.wok f5 λ_ h=>h.elim;have Th5:=Th4.fra PO.mle PO.ale f5 λ_ _ h=>h;have R5:=R4.fra f5 λh=>h;have hf5:∀b,x2.ownBlock=some b->w.heap.size<=b/\∀o,M5 b o=none:=by
   intro b hb;obtain⟨h1,h2⟩:=hf4 b hb;refine⟨h1,λo=>?_⟩;have hb4:=(Th4.blk b hb).2.1;cases hM:M5 b o with
   |none=>rfl
   |some y=>
    rcases f5.M b o y hM with h|h|h
    ·rw[h2 o]at h;cases h
    ·exact h.elim
    ·omega
  have hva5:=RepC.mono H5.mle H5.ale _ _ _ hva;clear R4 Th4 H4 PO;refine Aa V V (D6 V V V (D6 V V V (Ah V V (Ah V V (Aj [(0,.slice (some ⟨u.b,u.o,none⟩) u.l.length cap),(1,.int .i64 (i:Int)),(6,x2),(7,.bool jn),(8,ptr b8),(9,.slice a2 u2.l.length c2),(10,.int .i64 (e:Int))] ⟨V,V,V,V,V,V,V,trivial⟩ ?_)))));obtain⟨w6,e6,H6,f6,RN,hbn⟩:=H5.alloc 122 (cs:=[Value.bool true,.string nm,.slice ga at_.length ca,.string (ByteArray.mk #[]),.int .i64 ln,.int .i64 co,.slice a2 u2.l.length c2]) (by
   intro x hx;simp only[Ao,AB,or_false]at hx;rcases hx with rfl|rfl|rfl|rfl|rfl|rfl|rfl<;>rfl)
  refine Ac (Ab (Aa V V (Ad V (EO (.inr (.inl V)) _ _ _) V (Ae V (Ai I5 (v:=.string nm) (by rw[R5.blk.cell];rfl)) V (Ad V (EO (.inr (.inr (.inr (.inl V)))) _ _ _) V (Ae V (Ai Avd (v:=.slice ga at_.length ca) (by rw[R5.blk.cell];rfl)) V ?_))))));refine Ad V (EO (.inr (.inr (.inr (.inr (.inl V))))) _ _ _) V (Ae V (Ai Bo (v:=.int .i64 ln) (by rw[R5.blk.cell];rfl)) V ?_);refine Ad V (EO (.inr (.inr (.inr (.inr (.inr V))))) _ _ _) V (Ae V (Ai Bo (v:=.int .i64 co) (by rw[R5.blk.cell];rfl)) V (Aa V V (EB V Ati V (BR V (Aco V) V ?_))));rw[<-e6];generalize w5.heap.size=bn at RN hbn⊢;replace Th5:=Th5.fra (λ_ _ _ h=>h) (λ_ _ h=>h) f6 λ_ _ h=>h;obtain⟨z,w7,hrun,H7,f7,Th7,hf7,hzb⟩:=Aa9 H6 Th5 hf5 RN (r:=[.bool true,.str nm,.fz at_,.str (ByteArray.mk #[]),.int ln,.int co,.fz u2.l]) ⟨rfl,⟨rfl,hnm⟩,hva5,⟨rfl,AW _⟩,⟨rfl,hinl⟩,⟨rfl,hinc⟩,hin,trivial⟩ (by omega);refine CX V V hrun V (Ah V V (Ag (Ab (Aa V V (Ah V V (A2 λa ha=>Ak ⟨(e,_,z,_,w7,M5,A5),ha.weak ⟨V,V,V,V,trivial⟩,rfl,by simp only;omega,by simp only;omega,H7,Th7,hf7,λ_=>by simp,?_⟩))))));have hmono:=Au5 u.l (Mk e);have h0:CF 250000 250000 250000 (ByteArray.mk #[]).size=250000:=by rfl
  simp only;rw[Ju,Aa5,h0];simp only[Nat.succ_eq_add_one]at hmono;omega
 rintro⟨i',l3,x3,xs3,w5,M5,A5⟩ w' ⟨hw,m1,m2,H5,Th5,hf5,hj6,hw6⟩;simp only at hw m1 m2 H5 Th5 hf5 hj6 hw6⊢;obtain rfl:w5=w':=hw.symm;refine Ab (Aa V V (Al V V (NI (by unfold AP;omega)) V (Ah V V (A2 λa ha=>BK (Ak ⟨(i'+1,l3,x3,xs3,jn,w5,M5,A5),ha.weak ⟨V,V,V,V,trivial⟩,⟨rfl,by simp only;omega,by simp only;omega,H5,Th5,hf5,hj6,hw6⟩,by simp only;omega⟩)))))
end Go.Ck