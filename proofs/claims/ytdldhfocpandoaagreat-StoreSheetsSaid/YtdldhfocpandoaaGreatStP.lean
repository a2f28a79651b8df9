import Derived.Test.YtdldhfocpandoaaGreatStO
import Derived.Test.YtdldhfocpandoaaGreatStH
import Derived.Test.YtdldhfocpandoaaGreatStC
set_option maxHeartbeats 8000000
set_option maxRecDepth 8000
namespace Go.Sx
open Go.Proofs Go.Proofs.Tryz
variable{w:World}
theorem Atn{i j:Int}:(Instr.build 173 #[(4,.int .i64 i),(5,.int .i64 j)]).run prog w= .ok (.agg [.slice none 0 0,.slice none 0 0,.int .i64 0,.bool false,.int .i64 i,.int .i64 j].toArray) w:=by
 simp[Instr.build,zeroValue173,runUnderlying173,Value.cells,Instr.fill,sizeOf3]
variable{p long most:Nat}{S:Nat->Prop}
theorem Ael{w':World}(hp:Blk w' p [.slice none 0 0,.slice none 0 0,.int .i64 0,.bool false,.int .i64 most,.int .i64 long] 173)(h1:w.heap.size<=p)(f:Fr (λ_=>False) w (λ_=>False) w'):
 XSt w S p most long (ws0,false) (λb=>b=p) w':=by
 refine⟨λb _ hl=>⟨λh=>by subst h;omega,f.blk b hl (λh=>h)⟩,?_,f.size,⟨.slice none 0 0,.slice none 0 0,hp,World.ownsRow_nil _ _ _ _,World.ownsRow_nil _ _ _ _,rfl,?_,?_⟩,by simp[ws0]⟩
 ·rintro b rfl;exact hp.lt
 ·intro k hk;simp[Aw,Value.ownBlock]at hk
 ·intro k hk;simp[Aw,Value.ownBlock]at hk
theorem Asc:(w.alloc (.cells (magicB.map bv).toArray 5)).ownsRow 0 5 1 (.slice (some ⟨w.heap.size,0,none⟩) 4 4) magicB.length (magicB.map bv):=
 ⟨rfl,.inr ⟨w.heap.size,4,(magicB.map bv).toArray,rfl,AW _,heap_alloc_new w _,Ay _,by simp[maxLen],rfl,rfl⟩⟩
theorem XSt.rows{w0:World}{x:XW}{O:Nat->Prop}(h:XSt w0 S p most long x O w):∃vb vt,w.cell? ⟨p,0,none⟩=some vb/\w.cell? ⟨p,1,none⟩=some vt/\w.cell? ⟨p,3,none⟩=some (.bool x.2)/\p<w.heap.size/\
 w.ownsRow 0 5 1 vb x.1.b.length (x.1.b.map bv)/\w.ownsRow 0 9 1 vt x.1.tab.length (x.1.tab.map Value.string):=by
 obtain⟨vb,vt,m⟩:=h.mem;exact⟨vb,vt,by rw[m.blk.cell];rfl,by rw[m.blk.cell];rfl,by rw[m.blk.cell];rfl,m.blk.lt,m.rb,m.rt⟩
def HG(most long:Nat)(t:T):XW:=B1 most long t (ws0,false)
variable{t:T}
theorem As8{s:WS}(h:enc most long t ws0=some s):HG most long t=(s,false):=(Px t ws0).1 s h
theorem As7(h:enc most long t ws0=none):(HG most long t).2=true:=(Px t ws0).2 h
theorem Asy{cs:List Value}(hr:Rep w S t (.st .sheet) cs)(hu:11*t.wt<=2 ^ 40){w1:World}
 (hp:Blk w1 p [.slice none 0 0,.slice none 0 0,.int .i64 0,.bool false,.int .i64 most,.int .i64 long] 173) (h1:w.heap.size<=p) (f:Fr (λ_=>False) w (λ_=>False) w1):
 Calls prog 88 [ptr p,.agg cs.toArray].toArray w1 (End (λv w'=>v= .tuple #[]/\Fr (λ_=>False) w (λ_=>False) w'/\∃vb vt,w'.cell? ⟨p,0,none⟩=some vb/\w'.cell? ⟨p,1,none⟩=some vt/\w'.cell? ⟨p,3,none⟩=some (.bool (HG most long t).2)/\p<w'.heap.size/\
  w'.ownsRow 0 5 1 vb (HG most long t).1.b.length ((HG most long t).1.b.map bv)/\w'.ownsRow 0 9 1 vt (HG most long t).1.tab.length ((HG most long t).1.tab.map Value.string)/\(∀y∈(HG most long t).1.tab,y.size<=maxLen)/\(HG most long t).1.use<=11*t.wt) (λ_ _=>False)):=by
 have hx:XSt w S p most long (ws0,false) (λb=>b=p) w1:=Ael hp h1 f;have hu0:(ws0,false).1.use+11*t.wt<=2 ^ 40:=by simp only[ws0,WS.use,DS];omega
 refine(Avv hr hx hu0).mono ?_;intro e w' he;cases e with
 |returned v=>
  obtain⟨rfl,O',fo,hs⟩:=he;obtain⟨vb,vt,a1,a2,a3,a4,a5,a6⟩:=hs.rows;refine⟨rfl,?_,vb,vt,a1,a2,a3,a4,a5,a6,hs.tabs,?_⟩
  ·exact⟨fo.os.trans f.os,fo.tape.trans f.tape,fo.output.trans f.output,AX f.size fo.size,λb hb _=>by rw[fo.blk b (BB hb f.size) (λh=>by omega),f.blk b hb (λh=>h)],λ_ h=>h.elim⟩
  ·have:=(Py (most:=most) (long:=long) t (ws0,false) hu0).1;simp only[ws0,WS.use,DS]at this⊢;unfold HG;simp only[ws0];omega
 |panicked ch=>exact he.elim
 |outgrown=>exact he.elim
theorem c35{cs:List Value}(hr:Rep w S t (.st .sheet) cs)(hu:11*t.wt<=2 ^ 40):
 Calls prog 35 [.agg cs.toArray].toArray w (End (Rh w (Ho t)) (λ_ _=>False)):=by
 have hlen:cs.length=10:=hr.st_inv.elim λl h=>h.2.1;refine AE 74 func35 V V V ?_;refine Ac (Ab (Cy V V ?_));have a1:Blk (w.alloc (.cells cs.toArray 36)) w.heap.size cs 36:=Cf;have f1:Fr (λ_=>False) w (λ_=>False) (w.alloc (.cells cs.toArray 36)):=Fr.alloc _ _ _;show WL _ _ _ _ _ _ _ (w.alloc (.cells cs.toArray 36));generalize w.alloc (.cells cs.toArray 36)=w1 at a1 f1⊢;refine Ah V V (Ah V V (Ag ?_));refine Ac (Ab (EB V Atn V (Cy V V (Ah V V (Ag ?_)))));have a2:Blk (w1.alloc (.cells [.slice none 0 0,.slice none 0 0,.int .i64 0,.bool false,.int .i64 (1000:Nat),.int .i64 (16777216:Nat)].toArray 173)) w1.heap.size [.slice none 0 0,.slice none 0 0,.int .i64 0,.bool false,.int .i64 (1000:Nat),.int .i64 (16777216:Nat)] 173:=Cf;have f2:Fr (λ_=>False) w1 (λ_=>False) (w1.alloc (.cells [.slice none 0 0,.slice none 0 0,.int .i64 0,.bool false,.int .i64 (1000:Nat),.int .i64 (16777216:Nat)].toArray 173)):=Fr.alloc _ _ _;show W _ _ _ _ _ _ (w1.alloc (.cells [.slice none 0 0,.slice none 0 0,.int .i64 0,.bool false,.int .i64 (1000:Nat),.int .i64 (16777216:Nat)].toArray 173));generalize w1.alloc (.cells [.slice none 0 0,.slice none 0 0,.int .i64 0,.bool false,.int .i64 (1000:Nat),.int .i64 (16777216:Nat)].toArray 173)=w2 at a2 f2⊢;have a1':Blk w2 w.heap.size cs 36:=(f2.blk _ a1.lt (λh=>h)).trans a1;refine Ac (Ab (Aa V V (Ae V (AS Ev hlen a1'.all) V (Af call88 V V (Asy (hr.fresh f1) hu a2 (Ay _) f2) ?_ Am))));rintro _ w3 ⟨rfl,f3,vb,vt,hb,ht,hd,hpl,rb,rt,htabs,huse⟩;have F:=f1.trans f3;generalize w1.heap.size=p at hb ht hd hpl⊢;obtain⟨g,cap,rfl,_⟩:=G2 rb;obtain⟨gt,capt,rfl,hget⟩:=G2 rt;refine Ag (JM [(4,ptr p)] ⟨V,trivial⟩ ?_);refine Ac (Ac (Ab (Aa V V (AR V V (Ad V (Jb _ _ _) V (Ae V (Ai D4 hd) V (Aa V V ?_)))))));unfold Ho F2;cases he:enc 1000 16777216 t ws0 with
 |none=>
  have:=As7 he;rw[this];refine Cz (j:=4) V V V V V (Cz (j:=4) V V V V V (Cz (j:=4) V V V V V (Cz (j:=4) V V V V V (Cz (j:=4) V V V V V (Cz (j:=4) V V V V V (BW V V V (Ag (Ga V ?_))))))));refine Ac (Ab (Ah V V (Ah V V (Ag (AJ λa ha=>C9 (GV V ha V V ⟨.slice none 0 0,?_,rfl,rfl⟩))))));rw[Ku];exact F
 |some s=>
  have hrun:=As8 he;rw[hrun]at hb ht rb rt hget htabs huse⊢;simp only[]at hb ht rb rt hget htabs huse⊢;refine A9 (j:=4) V V V (Aa V V (A9 (j:=4) V V V (AR V V (A9 (j:=4) V V V (Ad V (Gk _ _ _) V ?_)))));refine A9 (j:=4) V V V (Ae V (Ai C_ hb) V (A9 (j:=4) V V V (AI V (AM underlying22) V (A9 (j:=4) V V V (Al V V (D2 (c:=decide (16777216<s.b.length)) (BM.2 (by omega))) V ?_)))));refine BW V V V (Ag (AN V (λh=>?_) (λh=>AG λa ha=>Ak ?_)))
  ·have hl:16777216<s.b.length:=B7 h;refine Ac (Ab (Ah V V (Ah V V (Ag (AJ λa ha=>C9 (GV V ha V V ⟨.slice none 0 0,?_,?_⟩))))))
   ·rw[Ku];exact F
   ·simp only[Cw];rw[if_pos hl];refine⟨?_,?_⟩<;>first|rfl|trivial
  ·have hl:¬16777216<s.b.length:=B2 h;have htz:=P_ t _ _ he;have htz0:E9 ws0.tab=0:=rfl;have hel:=PC s.tab htabs;simp only[WS.use]at huse;have hnl:=EY (n:=s.tab.length) (by omega);have hee:(Bu s.tab).length<=2 ^ 44:=by omega
   have htl:s.tab.length<=2 ^ 40:=by omega
   have hml:magicB.length=4:=rfl
   --the beginning
   refine A6 ha (Ac (Ab (BR V Aaq V ?_)));have r4:(w3.alloc (.cells (magicB.map bv).toArray 5)).ownsRow 0 5 1 (.slice (some ⟨w3.heap.size,0,none⟩) 4 4) magicB.length (magicB.map bv):=Asc;have f4:Fr (λ_=>False) w3 (Aw (.slice (some ⟨w3.heap.size,0,none⟩) 4 4)) (w3.alloc (.cells (magicB.map bv).toArray 5)):=
    ⟨rfl,rfl,rfl,by simp,λb hb _=>heap_alloc_old w3 _ b hb,λb hb=>.inr (Hg (VX hb))⟩
   generalize w3.alloc (.cells (magicB.map bv).toArray 5)=w4 at r4 f4⊢;generalize Value.slice (some ⟨w3.heap.size,0,none⟩) 4 4=v4 at r4 f4⊢;have cellT:∀{w':World}{U:Nat->Prop},Fr (λ_=>False) w3 U w'->w'.cell? ⟨p,1,none⟩=some (.slice gt s.tab.length capt):=λf=>by rw[World.cell?_of_block (w:=w3) (f.blk p hpl (λh=>h))];exact ht
   have cellB:∀{w':World}{U:Nat->Prop},Fr (λ_=>False) w3 U w'->w'.cell? ⟨p,0,none⟩=some (.slice g s.b.length cap):=λf=>by rw[World.cell?_of_block (w:=w3) (f.blk p hpl (λh=>h))];exact hb
   refine Aa V V (AR V V (Ad V (Im _ _ _) V (Ae V (Ai Ei (cellT f4)) V (AI V (AM underlying44) V (BH V (MD (by omega) (by omega)) V ?_)))));refine Af call89 V V (IT _ _ (Ay _) (by omega)) ?_ Am;rintro v5 w5 ⟨r5,f5⟩;have r4':=Cn r4 (λb hb=>f5.blk b (C8 r4 hb) (λh=>h));obtain⟨v6,w6,hr6,r6,f6⟩:=E7 (ty:=22) r4' (EA r5).src (by omega);have F6:Fr (λ_=>False) w3 (Aw v6) w6:=(f4.trans (f5.drop (λ_ h=>h.elim))).trans f6;refine CX V V hr6 V (Ah V V (Aj [(4,ptr p),(5,v6)] ⟨V,V,trivial⟩ ?_))
   --the strings
   refine Ac (Ac (Ab (Ah V V (Ag ?_))));refine AF (BP (ι:=Nat×Value×World) (λi=>[(4,ptr p),(5,i.2.1),(6,.int .i64 (i.1:Int))])
    (λi w'=>w'=i.2.2/\i.1<=s.tab.length/\Fr (λ_=>False) w3 (Aw i.2.1) w'/\w'.ownsRow 0 5 1 i.2.1 (magicB++num s.tab.length++Bu (s.tab.take i.1)).length ((magicB++num s.tab.length++Bu (s.tab.take i.1)).map bv)) (λi=>s.tab.length-i.1)
    (0,v6,w6) ⟨V,V,V,trivial⟩ ⟨rfl,AW _,F6,by simpa[Bu]using r6⟩ ?_)
   clear F6 r6 f6 hr6 r4' r5 f5;rintro⟨i,v7,_⟩ w7 ⟨rfl,hi,F7,r7⟩;simp only at hi F7 r7⊢;have het:=PD s.tab i;refine Ac (Ac (Ab (Aa V V (Aa V V (AR V V (Ad V (Im _ _ _) V (Ae V (Ai Ei (cellT F7)) V ?_)))))));refine AI V (AM underlying44) V (Al V V (CR (c:=decide (i<s.tab.length)) (BM.2 (by omega))) V (Ag (AN V (λht=>AG λa ha=>Ak ?_) (λhf=>BC λa ha=>AD (AD (B_ (Ak ?_)))))))
   ·have hlt:i<s.tab.length:=B7 ht;have hti:s.tab[i]? =some s.tab[i]:=Bm hlt;have hys:=htabs _ (Ca hlt);obtain⟨b,hgb,hcell,hob⟩:=hget i (.string s.tab[i]) (by rw[Mg,hti];rfl);subst hgb;have hbl:b<w3.heap.size:=C8 rt hob;have cellS:∀{w':World}{U:Nat->Prop},Fr (λ_=>False) w3 U w'->w'.cell? ⟨b,0+(i:Int).toNat*1,none⟩=some (.string s.tab[i]):=λf=>by
     rw[World.cell?_of_block (w:=w3) (f.blk b hbl (λh=>h))];simpa using hcell
    have hidx:∀w,(Instr.indexAt 44 (.slice (some ⟨b,0,none⟩) s.tab.length capt) (.int .i64 (i:Int))).run prog w= .ok (.pointer (some ⟨b,0+(i:Int).toNat*1,none⟩)) w:=λw=>
     Dy underlying44 FT (by omega) (by omega)
    have hsz:s.tab[i].size<=2 ^ 41:=by
     have:=Adc (Ca hlt);omega
    have htak:=Tw hti;have het1:=PD s.tab (i+1);have hel1:(Bu (s.tab.take (i+1))).length=(Bu (s.tab.take i)).length+(Dx s.tab[i]).length:=by rw[htak,Bh]
    have hey:(Dx s.tab[i]).length=(num s.tab[i].size).length+s.tab[i].size:=by unfold Dx;rw[Bh,FH];rfl
    refine A6 ha (Ac (AF ?_));refine Ac (Ab (Aa V V (Aa V V (AR V V (Ad V (Im _ _ _) V (Ae V (Ai Ei (cellT F7)) V (Aa V V (AO V V (hidx _) V (Ae V (Ai FT (cellS F7)) V (AI V (GR underlying9) V (BH V (MD (by omega) (by omega)) V ?_)))))))))));refine Af call89 V V (IT _ _ (Ay _) (by omega)) ?_ Am;rintro v8 w8 ⟨r8,f8⟩;have r7':=Cn r7 (λb hb=>f8.blk b (C8 r7 hb) (λh=>h));obtain⟨v9,w9,hr9,r9,f9⟩:=E7 (ty:=22) r7' (EA r8).src (by rw[Bh,Bh];omega);have F9:Fr (λ_=>False) w3 (Aw v9) w9:=(F7.trans (f8.drop (λ_ h=>h.elim))).trans f9;refine CX V V hr9 V (Ah V V (Ag ?_));refine Ab (Aa V V (Aa V V (AR V V (Ad V (Im _ _ _) V (Ae V (Ai Ei (cellT F9)) V (Aa V V (AO V V (hidx _) V (Ae V (Ai FT (cellS F9)) V ?_))))))));obtain⟨Ep,w10,hr10,r10,f10⟩:=E7 (ty:=22) (ys:=s.tab[i].data.toList) r9 (Src.ofString _ underlying9 s.tab[i]) (by
     have:s.tab[i].data.toList.length=s.tab[i].size:=FH;rw[Bh,Bh,Bh];omega)
    refine CX V V hr10 V (Ah V V (A2 λa ha=>BK (Ak ?_)));refine A6 ha (Ab (Aa V V (Al V V V V (Ah V V (A2 λa ha=>Ak ?_)))));refine⟨(i+1,Ep,w10),ha.weak ⟨rfl,rfl,congrArg some (Cl (by omega)),trivial⟩,⟨rfl,hlt,F9.trans f10,?_⟩,DI hlt (Cb i)⟩;simp only;rw[htak];have e:magicB++num s.tab.length++Bu (s.tab.take i)++num s.tab[i].size++s.tab[i].data.toList=magicB++num s.tab.length++(Bu (s.tab.take i)++Dx s.tab[i]):=by unfold Dx;simp only[Dg]
    rw[<-e];exact r10
   ·have hend:i=s.tab.length:=Eb hi (Ec (B2 hf));subst hend;rw[E5]at r7;have rb7:w7.ownsRow 0 5 1 (.slice g s.b.length cap) s.b.length (s.b.map bv):=Cn rb (λb hb=>F7.blk b (C8 rb hb) (λh=>h));obtain⟨v8,w8,hr8,r8,f8⟩:=E7 (ty:=22) r7 (EA rb7).src (by rw[Bh,Bh];omega);refine A6 ha (Ac (Ab (Aa V V (Aa V V (AR V V (Ad V (Gk _ _ _) V (Ae V (Ai C_ (cellB F7)) V (CX V V hr8 V ?_))))))));refine Af call14 V V (Yq (EA r8) (by rw[Bh,Bh,Bh];omega)) ?_ Am;rintro v9 w9 ⟨r9,f9⟩;have hsl:=Wy (magicB++num s.tab.length++Bu s.tab++s.b);obtain⟨g9,c9,rfl,_⟩:=G2 r9;have F9:Fr (λ_=>False) w (Aw (.slice g9 (C0 (magicB++num s.tab.length++Bu s.tab++s.b)).length c9)) w9:=(F.trans (F7.trans f8).none).fresh_trans f9;refine Ah V V (Ag ?_);refine Ac (Ac (Ab (Aa V V (AI V (AM underlying22) V (Al V V (D2 (c:=decide (16777216<(FO s).length)) (BM.2 (by unfold FO;omega))) V (Ag ?_))))));refine AN V (λh=>?_) (λh=>AG λa ha=>Ak ?_)
    ·have hl2:16777216<(FO s).length:=B7 h;refine Ac (Ab (Ah V V (Ah V V (Ag (AJ λa ha=>C9 (GV V ha V V ⟨.slice none 0 0,?_,?_⟩))))))
     ·rw[Ku];exact F9.none
     ·simp only[Cw];rw[if_neg hl];simp only[Cw];rw[if_pos hl2];refine⟨?_,?_⟩<;>first|rfl|trivial
    ·have hl2:¬16777216<(FO s).length:=B2 h;refine A6 ha (Ac (Ab (Aa V V (Ah V V (Ah V V (Ag (AJ λa ha=>GV V ha V V ⟨_,F9,?_⟩)))))));simp only[Cw];rw[if_neg hl];simp only[Cw];rw[if_neg hl2];refine⟨?_,?_⟩<;>first|rfl|trivial|exact r9
def GX(ops:Array Oper)(n:Nat):List Oper->Env->Option Env
 |[],m=>some m
 |⟨some d,_op,_,_,_,some (j,want)⟩::r,m=>
  match(ops[j]?).bind (·.dst),Nat.blt d n with
  |some dj,true=>
   match m.get dj with
   |some v=>match Kc v want with
    |false=>GX ops n r ((d,undef)::m)
    |true=>none
   |none=>none
  |_,_=>none
 |⟨some d,.move x,_,_,_,none⟩::r,m=>
  match ev m x,Nat.blt d n with
  |some v,true=>GX ops n r ((d,v)::m)
  |_,_=>none
 |⟨some d,.assign x,_,_,_,none⟩::r,m=>
  match ev m x,Nat.blt d n with
  |some v,true=>GX ops n r ((d,v)::m)
  |_,_=>none
 |⟨some d,.pick c x y,_,_,_,none⟩::r,m=>
  match ev m c,Nat.blt d n with
  |some (.bool true),true=>match ev m x with
   |some v=>GX ops n r ((d,v)::m)
   |none=>none
  |some (.bool false),true=>match ev m y with
   |some v=>GX ops n r ((d,v)::m)
   |none=>none
  |_,_=>none
 |_,_=>none
section
variable{P:Program}{ops:Array Oper}{n:Nat}{ds:List Deferred}{w:World}
theorem KP{Q:Exit->Act->World->Prop}:∀(rest:List Oper) (m m':Env),GX ops n rest m=some m'->WL P ops Q [] n ds m' w->WL P ops Q rest n ds m w:=by
 intro rest;induction rest with
 |nil=>intro m m' h k;simp only[GX,Option.some.injEq]at h;subst h;exact k
 |cons o r ih=>
  intro m m' h k;unfold GX at h;split at h
  ·rename_i heq;cases heq
  ·rename_i heq;cases heq;split at h
   ·rename_i dj hj hb;split at h
    ·rename_i v hv;split at h
     ·rename_i hw;obtain⟨o',ho',hd'⟩:=BV.1 hj;exact Cz ho' hd' hv hw hb (ih _ _ h k)
     ·cases h
    ·cases h
   ·cases h
  ·rename_i heq;cases heq;split at h
   ·rename_i hx hb;exact Aa hx hb (ih _ _ h k)
   ·cases h
  ·rename_i heq;cases heq;split at h
   ·rename_i hx hb;exact Ah hx hb (ih _ _ h k)
   ·cases h
  ·rename_i heq;cases heq;split at h
   ·rename_i hc hb;split at h
    ·rename_i hx;exact BW hc hx hb (ih _ _ h k)
    ·cases h
   ·rename_i hc hb;split at h
    ·rename_i hx;exact BW hc hx hb (ih _ _ h k)
    ·cases h
   ·cases h
  ·cases h
theorem Xy{C:World->Prop}{Q:Act->Prop}:∀(rest:List Oper) (m m':Env),GX ops n rest m=some m'->QL P ops C Q [] n ds m'->QL P ops C Q rest n ds m:=by
 intro rest;induction rest with
 |nil=>intro m m' h k;simp only[GX,Option.some.injEq]at h;subst h;exact k
 |cons o r ih=>
  intro m m' h k;unfold GX at h;split at h
  ·rename_i heq;cases heq
  ·rename_i heq;cases heq;split at h
   ·rename_i dj hj hb;split at h
    ·rename_i v hv;split at h
     ·rename_i hw;obtain⟨o',ho',hd'⟩:=BV.1 hj;exact OC ho' hd' hv hw hb (ih _ _ h k)
     ·cases h
    ·cases h
   ·cases h
  ·rename_i heq;cases heq;split at h
   ·rename_i hx hb;exact Dd hx hb (ih _ _ h k)
   ·cases h
  ·rename_i heq;cases heq;split at h
   ·rename_i hx hb;exact Xx hx hb (ih _ _ h k)
   ·cases h
  ·rename_i heq;cases heq;split at h
   ·rename_i hc hb;split at h
    ·rename_i hx;exact GG hc hx hb (ih _ _ h k)
    ·cases h
   ·rename_i hc hb;split at h
    ·rename_i hx;exact GG hc hx hb (ih _ _ h k)
    ·cases h
   ·cases h
  ·cases h
end
noncomputable def teq(t u:T):Bool:=@decide (t=u) (Classical.propDecidable _)
structure Neq(tid:TypeId)(f:Ty):Prop where
 guard:∀{w0:World}{S:Nat->Prop}{t u:T}{cs ds:List Value},Rep w0 S t f cs->Rep w0 S u f ds->∀(x y:Operand) (w:World),(eqGuard .neq tid x y (E_ f cs) (E_ f ds)).run prog w= .ok () w
 run:∀{w0:World}{S:Nat->Prop}{t u:T}{cs ds:List Value},Rep w0 S t f cs->Rep w0 S u f ds->∀(w:World),(binOp .neq tid (E_ f cs) (E_ f ds)).run prog w= .ok (.bool (!teq t u)) w
abbrev F0(w w':World):Prop:=Fr (λ_=>False) w (λ_=>False) w'
section
variable{w0 w:World}{S:Nat->Prop}{t u:T}{f:Ty}{cs ds:List Value}
end
end Go.Sx