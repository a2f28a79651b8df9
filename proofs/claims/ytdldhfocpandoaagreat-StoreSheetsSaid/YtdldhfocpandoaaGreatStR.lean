import Derived.Test.YtdldhfocpandoaaGreatStQ
import Derived.Test.YtdldhfocpandoaaGreatStI
set_option maxHeartbeats 8000000
set_option maxRecDepth 8000
namespace Go.Sx
open Go.Proofs Go.Proofs.Tryz
theorem Zi{w w':World}{r:Option (List UInt8)}{v:Value}(h:Rh w r v w'):∃vb g c,v= .tuple #[vb,.int .i64 (if r.isSome then 0 else 2)]/\vb= .slice g (r.getD []).length c/\Bts w' vb (r.getD [])/\F0 w w':=by
 obtain⟨vb,f,h⟩:=h;cases r with
 |none=>
  obtain⟨rfl,rfl⟩:=h;exact⟨_,none,0,rfl,rfl,⟨AW _,.inl ⟨rfl,rfl⟩⟩,f.none⟩
 |some bs=>
  obtain⟨rfl,h⟩:=h;obtain⟨g,c,rfl,_⟩:=G2 h;exact⟨_,g,c,rfl,rfl,EA h,f.none⟩
theorem c20{w:World}{S:Nat->Prop}{t:T}{cs:List Value}(hr:Rep w S t (.st .sheet) cs)(hu:11*t.wt<=2 ^ 40):
 Calls prog 20 [.agg cs.toArray].toArray w (End (λv w'=>v= .bool true/\F0 w w') (λ_ _=>False)):=by
 have hlen:cs.length=10:=hr.st_inv.elim λl h=>h.2.1;refine AE 27 func20 V V V ?_;refine Ac (Ab (Cy (v:=.agg cs.toArray) V V ?_));have fa:F0 w (w.alloc (.cells cs.toArray 36)):=Fr.alloc _ _ _;have aba:Blk (w.alloc (.cells cs.toArray 36)) w.heap.size cs 36:=Cf;show WL _ _ _ _ _ _ _ (w.alloc (.cells cs.toArray 36));generalize w.alloc (.cells cs.toArray 36)=wa at fa aba⊢;generalize w.heap.size=bxa at aba⊢;have ra:=hr.fresh fa;refine Ah V V (Ag ?_);refine Ac (Ab (Ae V (AS Ev hlen aba.all) V (Af call23 V V (SP ra hu) ?_ Am)));intro v1 w1 h1;obtain⟨vb,g,c,rfl,hvb,hb,f1⟩:=Zi h1;have aba1:Blk w1 bxa cs 36:=(f1.blk _ aba.lt (λh=>h)).trans aba;refine Aa V V (D6 V V V (D6 V V V (Ah V V (Ah V V (Ag ?_)))));refine Ac (Ab (Ae V (AS Ev hlen aba1.all) V (Af call35 V V (c35 (ra.fresh f1) hu) ?_ Am)));intro v2 w2 h2;obtain⟨vb2,g2,c2,rfl,hvb2,hb2,f2⟩:=Zi h2;refine Aa V V (D6 V V V (D6 V V V (Ah V V (Ah V V (Ag ?_)))));have hs1:=KW (hb.keep0 f2);have hs2:=KW hb2;refine Ac (Ab (Aa V V (Aa V V (Al V V (E0 (c:=true) (by simp)) V (Aa V V ?_)))));refine A9 (j:=3) V V V (Aa V V (A9 (j:=3) V V V (BH V hs1 V (A9 (j:=3) V V V (Aa V V ?_)))));refine A9 (j:=3) V V V (BH V hs2 V (A9 (j:=3) V V V (Fg V V Wo V (BW V V V (Ah V V (Ag ?_))))));exact AJ λa ha=>Ch V ha V ⟨rfl,(fa.trans f1).trans f2⟩
inductive Xt:List Value->Prop
 |mk {s:ByteArray}{g1:Option Addr}{n1 c1:Nat}{g2:Option Addr}{n2 c2:Nat}{g3:Option Addr}{n3 c3:Nat}{g4:Option Addr}{n4 c4:Nat}{g5:Option Addr}{n5 c5:Nat}{g6:Option Addr}{n6 c6:Nat}{g7:Option Addr}{n7 c7:Nat}{g8:Option Addr}{n8 c8:Nat}:Xt [.string s,.slice g1 n1 c1,.slice g2 n2 c2,.slice g3 n3 c3,.slice g4 n4 c4,.slice g5 n5 c5,.slice g6 n6 c6,.slice g7 n7 c7,.slice g8 n8 c8]
def At5:List Value->List Value
 |[]=>[]
 |b::r=>b:: .slice none 0 0::r
structure Awf(w:World)(t:T)(bs:List Value):Prop where
 nine:Xt bs
 rep:Rep w (λ_=>True) t (.st .sheet) (At5 bs)
end Go.Sx