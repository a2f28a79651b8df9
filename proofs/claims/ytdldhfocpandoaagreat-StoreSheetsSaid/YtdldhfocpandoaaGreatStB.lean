import Derived.Test.YtdldhfocpandoaaGreatStA
set_option maxHeartbeats 8000000
set_option maxRecDepth 8000
namespace Go.Sx
open Go.Proofs Go.Proofs.Tryz
def DV(w0:World)(S:Nat->Prop)(p most long:Nat)(f fe:FuncId)(e:Ty)(l:List T):Prop:=
 ∀cs,Rep w0 S (.list l) (.list e) cs->∀s O w,WSt w0 S p most long s O w->s.use+11*(Bf l+1)<=2 ^ 40->
  Calls prog f [ptr p,E_ (.list e) cs,.func (.func fe) #[ptr p] #[]].toArray w
   (End (RW w0 S p most long O w (enc most long (.list l) s)) (JN w0 S p most long O w (enc most long (.list l) s) s.nest))
variable{l:List T}{long most:Nat}
theorem Ts{s:WS}:enc most long (.list l) s=Bk most long l (s.num l.length):=by simp only[enc]
variable{p:Nat}{S:Nat->Prop}{w0:World}
theorem Ok{w:World}{s:WS}{O:Nat->Prop}(h:WSt w0 S p most long s O w){b o:Nat}{ds:List Value}(hS:S b)(hb:b<w0.heap.size)(k:At w0 b o ds):At w b o ds:=
 k.agree (h.inp b hS hb).2
theorem Qj{e:Ty}{cs:List Value}(h:Rep w0 S (.list l) (.list e) cs):
 ∃g cap,E_ (.list e) cs= .slice g l.length cap/\l.length<=maxLen/\((True/\l=[])\/∃b o,g=some ⟨b,o,none⟩/\S b/\b<w0.heap.size/\RepL w0 S e l b o):=by
 simp only[Rep]at h;rcases h with⟨⟨g,cap,rfl⟩,rfl⟩|⟨b,o,cap,rfl,h1,h2,h3,h4,h5⟩
 ·exact⟨g,cap,rfl,AW _,.inl ⟨trivial,rfl⟩⟩
 ·exact⟨_,cap,rfl,by omega,.inr ⟨b,o,rfl,h1,h2,h5⟩⟩
structure XE where
 f:FuncId
 fe:FuncId
 e:Ty
 ts:TypeId
 te:TypeId
 n:Nat
 fn:Func
 hF:prog.funcs[f]? =some fn
 hU:prog.underlying ts=some (.slice te)
 hT:AC prog te true n
 hZ:∃z,(∀w,(zeroValue te).run prog w= .ok z w)/\z.cells.size=n
 hS:e.size=n
 hC:GB prog fe
noncomputable def Es:List XE:=[
 ⟨152,153,.st .use,26,48,4,Tryz.f152,func152,underlying26,ER,⟨_,zeroValue48,rfl⟩,rfl,call153⟩,
 ⟨154,155,.st .template,27,74,12,Tryz.f154,func154,underlying27,Jp,⟨_,zeroValue74,rfl⟩,rfl,call155⟩,
 ⟨156,157,.st .dfn,28,140,27,Tryz.f156,func156,underlying28,Ji,⟨_,zeroValue140,rfl⟩,rfl,call157⟩,
 ⟨158,159,.st .global,29,144,29,Tryz.f158,func158,underlying29,Jj,⟨_,zeroValue144,rfl⟩,rfl,call159⟩,
 ⟨160,161,.st .key,30,76,18,Tryz.f160,func160,underlying30,Jq,⟨_,zeroValue76,rfl⟩,rfl,call161⟩,
 ⟨162,163,.st .accum,31,151,18,Tryz.f162,func162,underlying31,Gn,⟨_,zeroValue151,rfl⟩,rfl,call163⟩,
 ⟨164,165,.st .mode,32,84,6,Tryz.f164,func164,underlying32,Gs,⟨_,zeroValue84,rfl⟩,rfl,call165⟩,
 ⟨166,167,.st .output,33,157,5,Tryz.f166,func166,underlying33,Hs,⟨_,zeroValue157,rfl⟩,rfl,call167⟩,
 ⟨168,169,.st .charMap,34,162,2,Tryz.f168,func168,underlying34,Ht,⟨_,zeroValue162,rfl⟩,rfl,call169⟩,
 ⟨208,209,.st .expr,64,66,16,Tryz.f208,func208,underlying64,Cr,⟨_,zeroValue66,rfl⟩,rfl,call209⟩,
 ⟨211,212,.st .param,68,216,24,Tryz.f211,func211,underlying68,Hu,⟨_,zeroValue216,rfl⟩,rfl,call212⟩,
 ⟨213,214,.st .instr,56,72,51,Tryz.f213,func213,underlying56,Jo,⟨_,zeroValue72,rfl⟩,rfl,call214⟩,
 ⟨216,217,.st .rule,149,182,18,Tryz.f216,func216,underlying149,Jl,⟨_,zeroValue182,rfl⟩,rfl,call217⟩,
 ⟨219,220,.st .swap,160,170,2,Tryz.f219,func219,underlying160,Kf,⟨_,zeroValue170,rfl⟩,rfl,call220⟩,
 ⟨247,248,.st .part,57,282,18,Tryz.f247,func247,underlying57,Jm,⟨_,zeroValue282,rfl⟩,rfl,call248⟩,
 ⟨249,250,.st .sort,67,286,19,Tryz.f249,func249,underlying67,Iq,⟨_,zeroValue286,rfl⟩,rfl,call250⟩,
 ⟨251,252,.st .source,69,290,17,Tryz.f251,func251,underlying69,Kg,⟨_,zeroValue290,rfl⟩,rfl,call252⟩,
 ⟨253,254,.st .ctch,70,294,2,Tryz.f253,func253,underlying70,Ir,⟨_,zeroValue294,rfl⟩,rfl,call254⟩]
theorem wl(d:XE)(hd:d∈Es)(h:∀t∈l,B0 w0 S p most long d.fe d.e t):DV w0 S p most long d.f d.fe d.e l:=by
 intro cs hr s O w hw hu;obtain⟨g,cap,hv,hml,hg⟩:=Qj hr;rw[hv,Ts];have hll:=JL l;have hF:=d.hF;have hU:=d.hU;have hC:=d.hC;have hT:=d.hT;have hS':=d.hS;obtain⟨z,hz0,hzs⟩:=d.hZ;let n:=d.n;let fe:=d.fe;simp only[Es,Ao,AB,or_false]at hd;rcases hd with rfl|rfl|rfl|rfl|rfl|rfl|rfl|rfl|rfl|rfl|rfl|rfl|rfl|rfl|rfl|rfl|rfl|rfl;all_goals
  have hul:l.length<18446744073709551616:=by omega
  obtain⟨vb,hvb,hrb,hput⟩:=hw.put;refine AE 29 hF V V V ?_;refine Ac (Ab (Aa V V (Aa V V (AR V V (Ad V (Fj _ _ _) V (Ae V (Ai C_ hvb) V (Aa V V ?_)))))));refine AI V (AM hU) V (BH V (De runUnderlying3 runUnderlying164) V ?_);rw[DH (by omega) (by omega)];refine Af call97 V V (JQ hrb hul (by have:=EY hul;simp only[WS.use]at hu;omega)) ?_ Am;rintro v' w1 ⟨r1,f1⟩;obtain⟨w2,O2,hst,f2,hw2⟩:=hput v' w1 _ f1 r1;refine AR V V (Ad V (Fj _ _ _) V (An V V hst (Aj [(0,ptr p),(1,.slice g l.length cap),(2,.func (.func fe) #[ptr p] #[])] ⟨V,V,V,trivial⟩ ?_)));refine Ac (Ab (Aa V V (AI V (AM hU) V (Aa V V (Ag ?_)))));have hsu:=Ed (s:=s) hul;refine AF (BP (ι:=Nat×WS×(Nat->Prop)) (λi=>[(0,ptr p),(2,.func (.func fe) #[ptr p] #[]),(19,.slice g l.length cap),(20,.int .i64 l.length),(21,.int .i64 i.1)])
   (λi w'=>i.1<=l.length/\WSt w0 S p most long i.2.1 i.2.2 w'/\Fr O w i.2.2 w'/\Bk most long (l.take i.1) (s.num l.length)=some i.2.1) (λi=>l.length-i.1)
   (0,s.num l.length,O2) ⟨V,V,V,V,V,trivial⟩ ⟨AW _,hw2,f2,rfl⟩ ?_)
  rintro⟨i,si,Oi⟩ wi ⟨hi,hwi,fi,hei⟩;simp only at hi hwi fi hei⊢;refine Ac (Ab (Al V V V V (Ag (Ac ?_))));refine AN V (λht=>AG λa ha=>Ak ?_) (λhf=>BC λa ha=>AD (AD (B_ ?_)))
  ·have hlt:i<l.length:=by simp at ht;omega
   obtain⟨t,hn⟩:∃t,l[i]? =some t:=⟨_,Bm hlt⟩;rcases hg with⟨_,rfl⟩|⟨b,o,rfl,hS,hb,hrl⟩
   ·simp at hlt
   obtain⟨ds,hat,hlen,hrep⟩:=RepL.get hrl hn;have hlen':ds.length=n:=hlen.trans hS';have hone:=Rep.one _ _ _ hrep;have hat2:=Ok hwi hS hb hat;have hwt:=RO hn;have hui:=(Gi _ _ _ hei (by omega)).1;refine(Ac (AF (Ac (Ab (AO V V (Dy hU hT (by omega) (by omega)) V ?_))))) a ha;rw[Do];refine Ae V (AS hT hlen hat2) V (Ct (hz0 _) V ?_);obtain⟨w3,hst3,hb3,f3,hsz3⟩:=Ar5 (P:=prog) (w:=wi) (v:=.agg ds.toArray) hT hzs hlen rfl hone.2;have hw3:=hwi.other f3 (λ_ h=>h.elim);refine An V V hst3 (Ag ?_);have hat3:=hb3.at_ 0 n;rw[FI,R0 (Hg hlen')]at hat3;refine Ab (Aa V V (Ae V (AS hT hlen hat3) V ?_));have hcall:=h t (BA hn) ds hrep si Oi w3 hw3 (by omega);refine OJ V hC V V hcall ?_ ?_
   ·rintro v w4 ⟨rfl,s4,O4,hs4,f4,hw4⟩;refine A2 λa ha=>BK (Ak ((Ab (Al V V V V (Aa V V (A2 λa ha=>Ak ?_)))) a ha));have f34:Fr Oi wi O4 w4:=(f3.drop (λ_ h=>h.elim)).trans f4;refine⟨(i+1,s4,O4),ha.weak ⟨rfl,rfl,rfl,rfl,?_,trivial⟩,⟨hlt,hw4,fi.trans f34,?_⟩,by simp only;omega⟩
    ·show some (Value.int .i64 (IntKind.i64.wrap ((i:Int)+1)))=some (Value.int .i64 ((i+1:Nat):Int));rw[CS (by unfold AP;omega)];rfl
    ·simp only;rw[GZ hn,FM,hei];simp only[Cw,MK];exact hs4
   ·rintro ch w4 ⟨rfl,hs4,s4,O4,f4,hw4,hn1,hn2⟩ a ha;have f34:Fr Oi wi O4 w4:=(f3.drop (λ_ h=>h.elim)).trans f4;refine Gd (Ap (Ap (Gd (A8 ha ⟨rfl,Tn hn hei hs4,s4,O4,fi.trans f34,hw4,?_,hn2⟩))));have:=(Gi _ _ _ hei (by omega)).2;rw[this]at hn1;exact hn1
  ·have hge:i=l.length:=by simp at hf;omega
   subst hge;refine B9 V ha ⟨rfl,si,Oi,?_,fi,hwi⟩;rw[E5]at hei;exact hei
theorem Afj(h:∀t∈l,B0 w0 S p most long 153 (.st .use) t):DV w0 S p most long 152 153 (.st .use) l:=wl (Es[0]'(by decide)) (Ca _) h
theorem Afl(h:∀t∈l,B0 w0 S p most long 155 (.st .template) t):DV w0 S p most long 154 155 (.st .template) l:=wl (Es[1]'(by decide)) (Ca _) h
theorem Afn(h:∀t∈l,B0 w0 S p most long 157 (.st .dfn) t):DV w0 S p most long 156 157 (.st .dfn) l:=wl (Es[2]'(by decide)) (Ca _) h
theorem Afp(h:∀t∈l,B0 w0 S p most long 159 (.st .global) t):DV w0 S p most long 158 159 (.st .global) l:=wl (Es[3]'(by decide)) (Ca _) h
theorem Afr(h:∀t∈l,B0 w0 S p most long 161 (.st .key) t):DV w0 S p most long 160 161 (.st .key) l:=wl (Es[4]'(by decide)) (Ca _) h
theorem Aft(h:∀t∈l,B0 w0 S p most long 163 (.st .accum) t):DV w0 S p most long 162 163 (.st .accum) l:=wl (Es[5]'(by decide)) (Ca _) h
theorem Afv(h:∀t∈l,B0 w0 S p most long 165 (.st .mode) t):DV w0 S p most long 164 165 (.st .mode) l:=wl (Es[6]'(by decide)) (Ca _) h
theorem Afx(h:∀t∈l,B0 w0 S p most long 167 (.st .output) t):DV w0 S p most long 166 167 (.st .output) l:=wl (Es[7]'(by decide)) (Ca _) h
theorem Afz(h:∀t∈l,B0 w0 S p most long 169 (.st .charMap) t):DV w0 S p most long 168 169 (.st .charMap) l:=wl (Es[8]'(by decide)) (Ca _) h
theorem OZ(h:∀t∈l,B0 w0 S p most long 209 (.st .expr) t):DV w0 S p most long 208 209 (.st .expr) l:=wl (Es[9]'(by decide)) (Ca _) h
theorem SO(h:∀t∈l,B0 w0 S p most long 212 (.st .param) t):DV w0 S p most long 211 212 (.st .param) l:=wl (Es[10]'(by decide)) (Ca _) h
theorem KZ(h:∀t∈l,B0 w0 S p most long 214 (.st .instr) t):DV w0 S p most long 213 214 (.st .instr) l:=wl (Es[11]'(by decide)) (Ca _) h
theorem Af8(h:∀t∈l,B0 w0 S p most long 217 (.st .rule) t):DV w0 S p most long 216 217 (.st .rule) l:=wl (Es[12]'(by decide)) (Ca _) h
theorem Af_(h:∀t∈l,B0 w0 S p most long 220 (.st .swap) t):DV w0 S p most long 219 220 (.st .swap) l:=wl (Es[13]'(by decide)) (Ca _) h
theorem Y0(h:∀t∈l,B0 w0 S p most long 248 (.st .part) t):DV w0 S p most long 247 248 (.st .part) l:=wl (Es[14]'(by decide)) (Ca _) h
theorem Y2(h:∀t∈l,B0 w0 S p most long 250 (.st .sort) t):DV w0 S p most long 249 250 (.st .sort) l:=wl (Es[15]'(by decide)) (Ca _) h
theorem Agc(h:∀t∈l,B0 w0 S p most long 252 (.st .source) t):DV w0 S p most long 251 252 (.st .source) l:=wl (Es[16]'(by decide)) (Ca _) h
theorem Age(h:∀t∈l,B0 w0 S p most long 254 (.st .ctch) t):DV w0 S p most long 253 254 (.st .ctch) l:=wl (Es[17]'(by decide)) (Ca _) h
theorem SM(h:∀t∈l,B0 w0 S p most long 151 (.str) t):DV w0 S p most long 210 151 (.str) l:=by
 intro cs hr s O w hw hu;obtain⟨g,cap,hv,hml,hg⟩:=Qj hr;rw[hv,Ts];have hll:=JL l;have hul:l.length<18446744073709551616:=by omega
 obtain⟨vb,hvb,hrb,hput⟩:=hw.put;refine AE 29 func210 V V V ?_;refine Ac (Ab (Aa V V (Aa V V (AR V V (Ad V (Fj _ _ _) V (Ae V (Ai C_ hvb) V (Aa V V ?_)))))));refine AI V (AM underlying44) V (BH V (De runUnderlying3 runUnderlying164) V ?_);rw[DH (by omega) (by omega)];refine Af call97 V V (JQ hrb hul (by have:=EY hul;simp only[WS.use]at hu;omega)) ?_ Am;rintro v' w1 ⟨r1,f1⟩;obtain⟨w2,O2,hst,f2,hw2⟩:=hput v' w1 _ f1 r1;refine AR V V (Ad V (Fj _ _ _) V (An V V hst (Aj [(0,ptr p),(1,.slice g l.length cap),(2,.func (.func 151) #[ptr p] #[])] ⟨V,V,V,trivial⟩ ?_)));refine Ac (Ab (Aa V V (AI V (AM underlying44) V (Aa V V (Ag ?_)))));have hsu:=Ed (s:=s) hul;refine AF (BP (ι:=Nat×WS×(Nat->Prop)) (λi=>[(0,ptr p),(2,.func (.func 151) #[ptr p] #[]),(19,.slice g l.length cap),(20,.int .i64 l.length),(21,.int .i64 i.1)])
  (λi w'=>i.1<=l.length/\WSt w0 S p most long i.2.1 i.2.2 w'/\Fr O w i.2.2 w'/\Bk most long (l.take i.1) (s.num l.length)=some i.2.1) (λi=>l.length-i.1)
  (0,s.num l.length,O2) ⟨V,V,V,V,V,trivial⟩ ⟨AW _,hw2,f2,rfl⟩ ?_)
 rintro⟨i,si,Oi⟩ wi ⟨hi,hwi,fi,hei⟩;simp only at hi hwi fi hei⊢;refine Ac (Ab (Al V V V V (Ag (Ac ?_))));refine AN V (λht=>AG λa ha=>Ak ?_) (λhf=>BC λa ha=>AD (AD (B_ ?_)))
 ·have hlt:i<l.length:=by simp at ht;omega
  obtain⟨t,hn⟩:∃t,l[i]? =some t:=⟨_,Bm hlt⟩;rcases hg with⟨_,rfl⟩|⟨b,o,rfl,hS,hb,hrl⟩
  ·simp at hlt
  obtain⟨ds,hat,hlen,hrep⟩:=RepL.get hrl hn;have hlen':ds.length=1:=hlen;have hat2:=Ok hwi hS hb hat;have hwt:=RO hn;have hui:=(Gi _ _ _ hei (by omega)).1;refine(Ac (AF (Ac (Ab (AO V V (Dy underlying44 (AK:AC prog 9 false 1) (by omega) (by omega)) V ?_))))) a ha;rw[Do];obtain⟨x,rfl⟩:=O0.1 hlen';refine Ae V (Ai (AK:AC prog 9 false 1) (hat2 0 x V)) V (Ah V V (Ag ?_));refine Ab (Aa V V (Aa V V ?_));have hcall:=h t (BA hn) [x] hrep si Oi wi hwi (by omega);refine OJ V call151 V V hcall ?_ ?_
  ·rintro v w4 ⟨rfl,s4,O4,hs4,f4,hw4⟩;refine A2 λa ha=>BK (Ak ((Ab (Al V V V V (Aa V V (A2 λa ha=>Ak ?_)))) a ha));refine⟨(i+1,s4,O4),ha.weak ⟨rfl,rfl,rfl,rfl,?_,trivial⟩,⟨hlt,hw4,fi.trans f4,?_⟩,by simp only;omega⟩
   ·show some (Value.int .i64 (IntKind.i64.wrap ((i:Int)+1)))=some (Value.int .i64 ((i+1:Nat):Int));rw[CS (by unfold AP;omega)];rfl
   ·simp only;rw[GZ hn,FM,hei];simp only[Cw,MK];exact hs4
  ·rintro ch w4 ⟨rfl,hs4,s4,O4,f4,hw4,hn1,hn2⟩ a ha;refine Gd (Ap (Ap (Gd (A8 ha ⟨rfl,Tn hn hei hs4,s4,O4,fi.trans f4,hw4,?_,hn2⟩))));have:=(Gi _ _ _ hei (by omega)).2;rw[this]at hn1;exact hn1
 ·have hge:i=l.length:=by simp at hf;omega
  subst hge;refine B9 V ha ⟨rfl,si,Oi,?_,fi,hwi⟩;rw[E5]at hei;exact hei
theorem Agi(h:∀t∈l,B0 w0 S p most long 218 (.int) t):DV w0 S p most long 286 218 (.int) l:=by
 intro cs hr s O w hw hu;obtain⟨g,cap,hv,hml,hg⟩:=Qj hr;rw[hv,Ts];have hll:=JL l;have hul:l.length<18446744073709551616:=by omega
 obtain⟨vb,hvb,hrb,hput⟩:=hw.put;refine AE 29 func286 V V V ?_;refine Ac (Ab (Aa V V (Aa V V (AR V V (Ad V (Fj _ _ _) V (Ae V (Ai C_ hvb) V (Aa V V ?_)))))));refine AI V (AM underlying262) V (BH V (De runUnderlying3 runUnderlying164) V ?_);rw[DH (by omega) (by omega)];refine Af call97 V V (JQ hrb hul (by have:=EY hul;simp only[WS.use]at hu;omega)) ?_ Am;rintro v' w1 ⟨r1,f1⟩;obtain⟨w2,O2,hst,f2,hw2⟩:=hput v' w1 _ f1 r1;refine AR V V (Ad V (Fj _ _ _) V (An V V hst (Aj [(0,ptr p),(1,.slice g l.length cap),(2,.func (.func 218) #[ptr p] #[])] ⟨V,V,V,trivial⟩ ?_)));refine Ac (Ab (Aa V V (AI V (AM underlying262) V (Aa V V (Ag ?_)))));have hsu:=Ed (s:=s) hul;refine AF (BP (ι:=Nat×WS×(Nat->Prop)) (λi=>[(0,ptr p),(2,.func (.func 218) #[ptr p] #[]),(19,.slice g l.length cap),(20,.int .i64 l.length),(21,.int .i64 i.1)])
  (λi w'=>i.1<=l.length/\WSt w0 S p most long i.2.1 i.2.2 w'/\Fr O w i.2.2 w'/\Bk most long (l.take i.1) (s.num l.length)=some i.2.1) (λi=>l.length-i.1)
  (0,s.num l.length,O2) ⟨V,V,V,V,V,trivial⟩ ⟨AW _,hw2,f2,rfl⟩ ?_)
 rintro⟨i,si,Oi⟩ wi ⟨hi,hwi,fi,hei⟩;simp only at hi hwi fi hei⊢;refine Ac (Ab (Al V V V V (Ag (Ac ?_))));refine AN V (λht=>AG λa ha=>Ak ?_) (λhf=>BC λa ha=>AD (AD (B_ ?_)))
 ·have hlt:i<l.length:=by simp at ht;omega
  obtain⟨t,hn⟩:∃t,l[i]? =some t:=⟨_,Bm hlt⟩;rcases hg with⟨_,rfl⟩|⟨b,o,rfl,hS,hb,hrl⟩
  ·simp at hlt
  obtain⟨ds,hat,hlen,hrep⟩:=RepL.get hrl hn;have hlen':ds.length=1:=hlen;have hat2:=Ok hwi hS hb hat;have hwt:=RO hn;have hui:=(Gi _ _ _ hei (by omega)).1;refine(Ac (AF (Ac (Ab (AO V V (Dy underlying262 (AQ:AC prog 3 false 1) (by omega) (by omega)) V ?_))))) a ha;rw[Do];obtain⟨x,rfl⟩:=O0.1 hlen';refine Ae V (Ai (AQ:AC prog 3 false 1) (hat2 0 x V)) V (Ah V V (Ag ?_));refine Ab (Aa V V (Aa V V ?_));have hcall:=h t (BA hn) [x] hrep si Oi wi hwi (by omega);refine OJ V call218 V V hcall ?_ ?_
  ·rintro v w4 ⟨rfl,s4,O4,hs4,f4,hw4⟩;refine A2 λa ha=>BK (Ak ((Ab (Al V V V V (Aa V V (A2 λa ha=>Ak ?_)))) a ha));refine⟨(i+1,s4,O4),ha.weak ⟨rfl,rfl,rfl,rfl,?_,trivial⟩,⟨hlt,hw4,fi.trans f4,?_⟩,by simp only;omega⟩
   ·show some (Value.int .i64 (IntKind.i64.wrap ((i:Int)+1)))=some (Value.int .i64 ((i+1:Nat):Int));rw[CS (by unfold AP;omega)];rfl
   ·simp only;rw[GZ hn,FM,hei];simp only[Cw,MK];exact hs4
  ·rintro ch w4 ⟨rfl,hs4,s4,O4,f4,hw4,hn1,hn2⟩ a ha;refine Gd (Ap (Ap (Gd (A8 ha ⟨rfl,Tn hn hei hs4,s4,O4,fi.trans f4,hw4,?_,hn2⟩))));have:=(Gi _ _ _ hei (by omega)).2;rw[this]at hn1;exact hn1
 ·have hge:i=l.length:=by simp at hf;omega
  subst hge;refine B9 V ha ⟨rfl,si,Oi,?_,fi,hwi⟩;rw[E5]at hei;exact hei
end Go.Sx