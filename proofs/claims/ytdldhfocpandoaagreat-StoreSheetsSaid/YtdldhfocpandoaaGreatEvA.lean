import Derived.Test.YtdldhfocpandoaaGreatAsD
import Derived.Test.YtdldhfocpandoaaGreatStS
import Derived.Test.YtdldhfocpandoaaGreatStR
import Derived.Test.YtdldhfocpandoaaGreatStM
set_option maxHeartbeats 8000000
set_option maxRecDepth 8000
namespace Go.Ck
open Go.Sx Go.Proofs Go.Proofs.Tryz
section
variable{H:Type}{enc:TypeId×Value->H}{w:World}{base:Nat}{spare:Nat->Bool}{held:Bool}
variable{cs:List Value}
theorem Jw{b o:Nat}(h:At w b o cs){j:Nat}{x:Value}(hj:cs[j]? =some x)(h1:x.oneCell'=true):EX w b (o+j)=some x:=by
 have:=h j x hj;simp[EX,this,h1]
theorem Aam{e el ts:Nat}(hrow:∀(n:Nat) (ds:List Value) (x:DataW H×List MemPlace),DataW.trod enc prog w base spare held n el ds=some x->∃r,∀b o,At w b o ds->RepR eT (EX w) Gx r (eT e).cells b o)
 (hcells:prog.cellsOf el=(eT e).cells.length) (hpos:0<(eT e).cells.length) (hinv:(eT e).inv=[]) (hu:prog.underlying ts=some (.slice el)) (n:Nat) (cs:List Value) (x:DataW H×List MemPlace)
 (h:DataW.trod enc prog w base spare held n ts cs=some x):
 ∃(L:List (List CV)) (a:Option Addr) (cap:Nat),cs=[.slice a L.length cap]/\L.length<=maxLen/\(L=[]\/∃b o,a=some ⟨b,o,none⟩/\L.length<=cap/\cap<=maxLen/\RepL eT (EX w) Gx L e b o 0):=by
 cases n with
 |zero=>simp[DataW.trod]at h
 |succ n=>
  rcases DataW.trod_slice hu h with⟨rfl,rfl⟩|⟨a,len,cap,elems,rest,m,hm,rfl,rfl,hb,hl,hc,hlen,hel,_,_⟩
  ·exact⟨[],none,0,rfl,AW _,.inl V⟩
  ·by_cases h0:len=0
   ·subst h0;exact⟨[],some a,cap,rfl,AW _,.inl V⟩
   ·have hcell:∀i,i<len->∃ds y,w.cells? base (a.add (i*(eT e).cells.length)) (eT e).cells.length=some ds/\DataW.trod enc prog w base spare held m el ds=some y:=by
     intro i hi;have h1:=hel i hi;rw[hcells]at h1;have h2:elems[i]? =some (elems[i]'(by omega)):=Bm (by omega);rw[h2,BV]at h1;obtain⟨ds,g1,g2⟩:=h1;exact⟨ds,_,g1,g2⟩
    obtain⟨ds0,y0,hc0,_⟩:=hcell 0 (by omega);obtain⟨_,hdl,hd0⟩:=World.cells?_some hc0;have hv0:w.cell? a=ds0[0]? :=by
     have:=hd0 0 hpos;rwa[show(a.add (0*(eT e).cells.length)).add 0=a from by rw[Mo];rfl]at this
    rw[Bm (by omega)]at hv0;obtain⟨hspot,hbl⟩:=Ahf hv0;obtain⟨b,o,sp⟩:=a;simp only at hspot hbl;subst hspot;have key:∀(k i:Nat),i+k=len->∃L:List (List CV),L.length=k/\RepL eT (EX w) Gx L e b (o+i*(eT e).cells.length) i:=by
     intro k;induction k with
     |zero=>intro i _;exact⟨[],rfl,by simp only[RepL]⟩
     |succ k ih=>
      intro i hik;obtain⟨L,k1,k2⟩:=ih (i+1) (by omega);obtain⟨ds,y,g1,g2⟩:=hcell i (by omega);obtain⟨r,hr⟩:=hrow m ds y g2;obtain⟨c1,c2⟩:=Ahh g1;refine⟨r::L,by simp[k1],?_⟩;simp only[RepL];refine⟨hr _ _ c2,?_,?_⟩
      ·intro f hf;rw[hinv]at hf;simp at hf
      ·rwa[show o+i*(eT e).cells.length+(eT e).cells.length=o+(i+1)*(eT e).cells.length from by rw[Dq];omega]
    obtain⟨L,k1,k2⟩:=key len 0 (by omega);refine⟨L,some ⟨b,o,none⟩,cap,by rw[k1],by omega,.inr ⟨b,o,rfl,by omega,hc,?_⟩⟩;simpa using k2
variable{v:Value}
theorem J8{ds:List Value}{k:Nat}(h:(ds.drop k).take 1=[v]):ds[k]? =some v:=by
 have:((ds.drop k).take 1)[0]? =some v:=by rw[h];rfl
 simpa[Ea,He]using this
theorem QD{n:Nat}{x:DataW H×List MemPlace}(h:DataW.trod enc prog w base spare held n 9 cs=some x):∃s:ByteArray,cs=[.string s]/\s.size<=maxLen:=by
 cases n with
 |zero=>simp[DataW.trod]at h
 |succ n=>
  obtain⟨s,rfl,rfl,hs⟩:=DataW.trod_string underlying9 h;exact⟨s,rfl,hs⟩
theorem Vz{n:Nat}{x:DataW H×List MemPlace}(h:DataW.trod enc prog w base spare held n 3 cs=some x):∃m:Int,cs=[.int .i64 m]/\Bs .i64 m:=by
 cases n with
 |zero=>simp[DataW.trod]at h
 |succ n=>
  obtain⟨m,rfl,rfl,hw⟩:=DataW.trod_int underlying3 h;have:=Aqv hw;refine⟨m,rfl,?_⟩;unfold AP at this;simp only[Bs,Cq,C1];exact this
theorem Aey:(eT 5).cells=[.str 250000 250000 250000,.str 250000 250000 250000]:=rfl
theorem PJx:(eT 24).cells=[.int .i64 0,.str 250000 250000 250000,.str 250000 250000 250000,.fz 5 1,.int .i64 0,.int .i64 0]:=rfl
theorem Pj:prog.cellsOf 9=1:=by kernel_rfl
theorem Te:prog.cellsOf 3=1:=by kernel_rfl
theorem Amk:prog.cellsOf 107=1:=by kernel_rfl
theorem Amm:prog.cellsOf 111=(eT 5).cells.length:=by kernel_rfl
theorem Aml:prog.cellsOf 109=(eT 24).cells.length:=by kernel_rfl
theorem Aez(n:Nat)(ds:List Value)(x:DataW H×List MemPlace)(h:DataW.trod enc prog w base spare held n 111 ds=some x):∃r,∀b o,At w b o ds->RepR eT (EX w) Gx r (eT 5).cells b o:=by
 obtain⟨xs,m,rfl,rfl,hcl,hxl,hx⟩:=DataW.trod_struct underlying111 h;have h0:DataW.trod enc prog w base spare held m 9 ((ds.drop 0).take (prog.cellsOf 9))=xs[0]? :=hx 0 _ rfl;rw[Pj,Bm (by rw[hxl];exact(by decide:0<2))]at h0;obtain⟨s0,e0,g0⟩:=QD (cs:=(ds.drop 0).take 1) h0;have h1:DataW.trod enc prog w base spare held m 9 ((ds.drop 1).take (prog.cellsOf 9))=xs[1]? :=hx 1 _ rfl;rw[Pj,Bm (by rw[hxl];exact(by decide:1<2))]at h1;obtain⟨s1,e1,g1⟩:=QD (cs:=(ds.drop 1).take 1) h1;refine⟨[.str s0,.str s1],λb o ha=>?_⟩;rw[Aey];simp only[RepR,RepC];have a0:=Jw ha (J8 e0) rfl;have a1:=Jw ha (J8 e1) rfl;exact⟨⟨_,a0,rfl,g0⟩,⟨_,a1,rfl,g1⟩,trivial⟩
theorem T5x(n:Nat)(ds:List Value)(x:DataW H×List MemPlace)(h:DataW.trod enc prog w base spare held n 109 ds=some x):∃r,∀b o,At w b o ds->RepR eT (EX w) Gx r (eT 24).cells b o:=by
 obtain⟨xs,m,rfl,rfl,hcl,hxl,hx⟩:=DataW.trod_struct underlying109 h;have h0:DataW.trod enc prog w base spare held m 3 ((ds.drop 0).take (prog.cellsOf 3))=xs[0]? :=hx 0 _ rfl;rw[Te,Bm (by rw[hxl];exact(by decide:0<6))]at h0;obtain⟨k0,e0,g0⟩:=Vz (cs:=(ds.drop 0).take 1) h0;have h1:DataW.trod enc prog w base spare held m 9 ((ds.drop 1).take (prog.cellsOf 9))=xs[1]? :=hx 1 _ rfl;rw[Pj,Bm (by rw[hxl];exact(by decide:1<6))]at h1;obtain⟨s1,e1,g1⟩:=QD (cs:=(ds.drop 1).take 1) h1;have h2:DataW.trod enc prog w base spare held m 9 ((ds.drop 2).take (prog.cellsOf 9))=xs[2]? :=hx 2 _ rfl;rw[Pj,Bm (by rw[hxl];exact(by decide:2<6))]at h2;obtain⟨s2,e2,g2⟩:=QD (cs:=(ds.drop 2).take 1) h2;have h3:DataW.trod enc prog w base spare held m 107 ((ds.drop 3).take (prog.cellsOf 107))=xs[3]? :=hx 3 _ rfl;rw[Amk,Bm (by rw[hxl];exact(by decide:3<6))]at h3;obtain⟨L,a,cap,e3,g3,g3'⟩:=Aam (e:=5) (el:=111) (ts:=107) Aez Amm (by decide) rfl underlying107 m ((ds.drop 3).take 1) _ h3;have h4:DataW.trod enc prog w base spare held m 3 ((ds.drop 4).take (prog.cellsOf 3))=xs[4]? :=hx 4 _ rfl;rw[Te,Bm (by rw[hxl];exact(by decide:4<6))]at h4;obtain⟨k4,e4,g4⟩:=Vz (cs:=(ds.drop 4).take 1) h4;have h5:DataW.trod enc prog w base spare held m 3 ((ds.drop 5).take (prog.cellsOf 3))=xs[5]? :=hx 5 _ rfl;rw[Te,Bm (by rw[hxl];exact(by decide:5<6))]at h5;obtain⟨k5,e5,g5⟩:=Vz (cs:=(ds.drop 5).take 1) h5;refine⟨[.int k0,.str s1,.str s2,.fz L,.int k4,.int k5],λb o ha=>?_⟩;rw[PJx];simp only[RepR,RepC];have a0:=Jw ha (J8 e0) rfl;have a1:=Jw ha (J8 e1) rfl;have a2:=Jw ha (J8 e2) rfl;have a3:=Jw ha (J8 e3) rfl;have a4:=Jw ha (J8 e4) rfl;have a5:=Jw ha (J8 e5) rfl;exact⟨⟨_,a0,rfl,g0⟩,⟨_,a1,rfl,g1⟩,⟨_,a2,rfl,g2⟩,⟨_,a3,a,cap,rfl,g3,g3'⟩,⟨_,a4,rfl,g4⟩,⟨_,a5,rfl,g5⟩,trivial⟩
theorem evs_arg{d:DataW H}{ps:List MemPlace}(hv:∃g l c,v= .slice g l c)(hd:DataW.Trod enc prog w base spare held 78 v d ps):∃L,Evs w v L:=by
 obtain⟨n,hn⟩:=hd;obtain⟨g,l,c,rfl⟩:=hv;obtain⟨L,a,cap,e,h1,h2⟩:=Aam (e:=24) (el:=109) (ts:=78) T5x Aml (by decide) rfl underlying78 n _ _ hn;have:Value.slice g l c= .slice a L.length cap:=by
  have h:[Value.slice g l c]=[.slice a L.length cap]:=e;exact List.head_eq_of_cons_eq h
 exact⟨L,h1,a,cap,this,h2⟩
end
end Go.Ck
namespace Go.Sx
open Go.Proofs Go.Proofs.Tryz
variable{v:Value}
theorem c10{w:World}{L:List (List Go.Ck.CV)}(h:Go.Ck.Evs w v L):Calls prog 10 [v].toArray w (End (λr w'=>r= .bool true/\Fr (λ_=>False) w (λ_=>False) w') λ_ _=>False):=by
 refine AE 26 func10 V V V ?_;refine Ac (Ab (Ah V V (Ag ?_)));refine Ac (Ac (Ab (Aa V V (Af call24 V V (Go.Ck.light_ok h) ?_ Am))));rintro _ w1 ⟨⟨b,rfl,hb⟩,f1⟩;refine HZ V V (Ag (AN V (λht=>?_) (λhf=>AG λA hA=>Ak ?_)))
 ·refine Ac (Ab (Af call13 V V OY ?_ Am));rintro _ w2 ⟨rfl,f2⟩;exact Ah V V (Ag (AJ λA hA=>C9 (Ch V hA V ⟨rfl,f1.trans f2⟩)))
 ·have hbt:b=true:=by cases b<;>simp at hf⊢
  have hm:=hb hbt;refine A6 hA (Ac (Ab (Aa V V (Af call25 V V (Go.Ck.parse_ok (h.keep f1) hm) ?_ Am))));rintro _ w2 ⟨⟨cs,a,b2,e,rfl,t,hr,hwt⟩,f2⟩;have hone:=Rep.one _ _ _ hr;obtain⟨w3,hst,b3,f3⟩:=Ass (w:=w2) (cs:=cs) hone.1 hone.2;refine Aa V V (D6 V V V (D6 V V V (D6 V V V (D6 V V V (Ct (Xf _) V (An V V hst (Ah V V (Ah V V (Ah V V (Ag ?_))))))))));refine Ac (Ac (Ab (Aa V V (Al V V (I1 (c:=!decide (e=0)) V) V (Ag (AN V (λht=>?_) (λhf=>AG λA hA=>Ak ?_)))))))
  ·refine Ac (Ab (Af call13 V V OY ?_ Am));rintro _ w4 ⟨rfl,f4⟩;exact Ah V V (Ag (AJ λA hA=>C9 (Ch V hA V ⟨rfl,((f1.trans f2).trans f3).trans f4⟩)))
  ·refine A6 hA (Ac (Ab (Ae V (AS Ev hone.1 b3.all) V (Af call20 V V (c20 (hr.fresh f3) (by omega)) ?_ Am))));rintro _ w4 ⟨rfl,f4⟩;refine Aa V V (A9 (j:=2) V V V (Af call13 V V OY ?_ Am));rintro _ w5 ⟨rfl,f5⟩;exact BW V V V (Ah V V (Ag (AJ λA hA=>Ch V hA V ⟨rfl,(((f1.trans f2).trans f3).trans f4).trans f5⟩)))
end Go.Sx