import Derived.Test.YtdldhfocpandoaaGreatStH
import Derived.Laws.OwnMore
set_option maxHeartbeats 8000000
set_option maxRecDepth 8000
namespace Go.Sx
def bytesP:ByteArray:=⟨#[112]⟩
def bytesF:ByteArray:=⟨#[102,97,105,108]⟩
def H_:T:=.agg .mode [.str bytesP,.str bytesF,.bool false,.bool false,.str ⟨#[]⟩,.int 0]
def I_:T:=.agg .sheet [.str bytesP,.list [],.list [],.list [],.list [],.list [],.list [],.list [H_,H_],.list [],.list []]
theorem n0:num 0=[0]:=FE (by decide)
theorem n1:num 1=[1]:=FE (by decide)
theorem n2:num 2=[2]:=FE (by decide)
theorem n3:num 3=[3]:=FE (by decide)
theorem n4:num 4=[4]:=FE (by decide)
theorem Am1{most long:Nat}(hm:1<=most):enc most long Og ws0=some ⟨[0,0,0,0,0,0,0,0,0,0],[⟨#[]⟩],0⟩:=by
 have h:¬(most<0+1\/long<0):=by omega
 simp only[Og,enc,Bk,SN.deep,ws0,WS.str,WS.num,List.findIdx?_nil,DS,n0,Cw,Dh,if_neg h,KI,CL]
theorem Ar1:(bytesP=bytesF)=False:=by simp[bytesP,bytesF]
theorem Ar0:(bytesP=⟨#[]⟩)=False:=by simp[bytesP]
theorem Arz:(bytesF=⟨#[]⟩)=False:=by simp[bytesF]
theorem Awc:C2 0=0:=by decide
theorem Am0{most long:Nat}(hm:1<=most):enc most long I_ ws0=some ⟨[0,0,0,0,0,0,0,2,0,1,0,0,2,0,0,1,0,0,2,0,0,0],[bytesP,bytesF,⟨#[]⟩],0⟩:=by
 have h:¬most=0:=by omega
 simp[I_,H_,enc,Bk,SN.deep,ws0,WS.str,WS.num,n0,n1,n2,h,Ar1,Ar0,Arz,Awc,List.findIdx?_cons]
def K6:List UInt8:=[67,72,83,76,1,0,0,0,0,0,0,0,0,0,0,0]
def JC:List UInt8:=[67,72,83,76,3,1,112,4,102,97,105,108,0,0,0,0,0,0,0,0,2,0,1,0,0,2,0,0,1,0,0,2,0,0,0]
theorem V4(x:BitVec 32):(EU x).length=4:=rfl
theorem Am2:Ho Og=some (C0 K6):=by
 have hf:FO ⟨[0,0,0,0,0,0,0,0,0,0],[⟨#[]⟩],0⟩=C0 K6:=by
  unfold FO;simp only[Cg,DS,BO,n1,Bu,Dx,FW];have:(⟨#[]⟩:ByteArray).size=0:=rfl;rw[this,n0];rfl
 unfold Ho F2;rw[Am1 (by decide)];simp only[Cw,hf];rw[if_neg (by simp)];simp only[Cw];rw[if_neg (by unfold C0;simp[V4,K6])]
theorem YW:Ho I_=some (C0 JC):=by
 have hf:FO ⟨[0,0,0,0,0,0,0,2,0,1,0,0,2,0,0,1,0,0,2,0,0,0],[bytesP,bytesF,⟨#[]⟩],0⟩=C0 JC:=by
  unfold FO;simp only[Cg,DS,BO,Nat.reduceAdd,n3,Bu,Dx,FW];have h1:(⟨#[]⟩:ByteArray).size=0:=rfl;have h2:bytesP.size=1:=rfl;have h3:bytesF.size=4:=rfl;rw[h1,h2,h3,n0,n1,n4];rfl
 unfold Ho F2;rw[Am0 (by decide)];simp only[Cw,hf];rw[if_neg (by simp)];simp only[Cw];rw[if_neg (by unfold C0;simp[V4,JC])]
theorem Ams{bs:List UInt8}{t t':T}(h:GC bs t)(h':GC bs t'):t=t':=by
 obtain⟨tab,r,s',hb,_,hc,_⟩:=h.parse;obtain⟨tab',r',s'',hb',_,hc',_⟩:=h'.parse;obtain⟨rfl,rfl⟩:=Ac7 (hb.symm.trans hb');exact(JR _ _ _ _ _ _ hc hc').1
theorem Aq3:Kd I_ (.st .sheet):=by
 simp[I_,H_,Kd,Mb,KdF,SN.fields,AP]
theorem YN:GC (C0 JC) I_:=Amr Aq3 YW
open Go.Proofs Go.Proofs.Tryz
def modeC:List Value:=[.string bytesP,.string bytesF,.bool false,.bool false,.string ⟨#[]⟩,.int .i64 0]
def QU(b:Nat):List Value:=[.string bytesP,.slice none 0 0,.slice none 0 0,.slice none 0 0,.slice none 0 0,.slice none 0 0,.slice none 0 0,.slice (some ⟨b,0,none⟩) 2 2,.slice none 0 0,.slice none 0 0]
variable{w:World}
theorem Ab7:(Instr.build 84 #[(0,.string bytesP),(1,.string bytesF)]).run prog w= .ok (.agg modeC.toArray) w:=by
 simp[Instr.build,zeroValue84,runUnderlying84,Value.cells,Instr.fill,sizeOf9,modeC]
theorem Att{b:Nat}:(Instr.build 36 #[(0,.string bytesP),(7,.slice (some ⟨b,0,none⟩) 2 2)]).run prog w= .ok (.agg (QU b).toArray) w:=by
 simp[Instr.build,zeroValue36,runUnderlying36,Value.cells,Instr.fill,sizeOf9,sizeOf32,QU]
theorem Atd:(Instr.buildSlice 32 2 #[(0,.agg modeC.toArray),(1,.agg modeC.toArray)]).run prog w= .ok (.slice (some ⟨w.heap.size,0,none⟩) 2 2) (w.alloc (.cells (modeC++modeC).toArray 84)):=by
 obtain⟨bytes,⟨i,z,h1,h2,h3,h4,h5⟩,_⟩:∃bytes,K_ prog 84 6 bytes/\bytes<=4096:=Ps (by kernel_rfl);refine run_buildSlice w 32 84 2 _ _ i z underlying32 h1 h2 (by rw[h4];decide) (by rw[h4];decide) ?_;rw[h4];have:=Go.Great.fill_whole (s:=6) (by decide) [.agg modeC.toArray,.agg modeC.toArray] ((Array.range (2*6)).map (z.cells[·%z.cells.size]!)) (by simp[Value.cells,modeC]) (by simp);simpa[Value.cells]using this
theorem Asz{b:Nat}(hb:Blk w b (modeC++modeC) 84):Rep w (λk=>k=b) I_ (.st .sheet) (QU b):=by
 have hm:∀o,At w b o modeC->(∃ds,At w b o ds/\ds.length=Ty.size (.st .mode)/\Rep w (λk=>k=b) H_ (.st .mode) ds):=by
  intro o ha;refine⟨modeC,ha,rfl,?_⟩;have hp:bytesP.size<=maxLen:=AX (show bytesP.size<=4 by decide) (by simp[maxLen]);have hf:bytesF.size<=maxLen:=AX (show bytesF.size<=4 by decide) (by simp[maxLen]);simp only[H_,modeC,Rep,RepF,SN.fields,SN.size,Ty.size,Cg,DS,Oy,FI,JH,HQ,Nat.reduceAdd,true_and,Gc];exact⟨hp,hf,AW _,by unfold AP;decide⟩
 have hl:RepL w (λk=>k=b) (.st .mode) [H_,H_] b 0:=by
  simp only[RepL];exact⟨hm 0 hb.all.left,hm _ (by have:=hb.all.right;exact this),trivial⟩
 have hp:bytesP.size<=maxLen:=AX (show bytesP.size<=4 by decide) (by simp[maxLen]);simp only[I_,QU,Rep,RepF,SN.fields,SN.size,Ty.size,Cg,DS,Oy,FI,JH,HQ,Nat.reduceAdd,Aa8,true_and,Gc,true_or];exact⟨hp,.inr ⟨b,0,2,rfl,rfl,hb.lt,Ay _,by simp[maxLen],hl⟩⟩
theorem Ack(bs:List UInt8):(C0 bs).take bs.length=bs:=by unfold C0;exact HP
theorem Wy(bs:List UInt8):(C0 bs).length=bs.length+4:=by unfold C0;rw[Bh,V4]
variable{x:ByteArray}{t:TypeId}{P:Program}
theorem Wp{y:ByteArray}:(binOp .eql t (.string x) (.string y)).run P w= .ok (.bool (decide (x=y))) w:=by
 have h1:binOp .eql t (.string x) (.string y)=pure (.bool (x.toList==y.toList)):=rfl;have h2:(x.toList==y.toList)=decide (x=y):=by
  rw[Go.Lib.toList_data,Go.Lib.toList_data,Bool.eq_iff_iff];simp only[beq_iff_eq,decide_eq_true_eq];exact⟨toList_inj,λe=>by rw[e]⟩
 rw[h1,h2];rfl
theorem Acc:(binOp .neq t (.string x) (.string x)).run P w= .ok (.bool false) w:=by
 rw[Q8];simp
theorem Wo:(binOp .eql t (.string x) (.string x)).run P w= .ok (.bool true) w:=by
 rw[Wp];simp
theorem OY:Calls prog 13 ([]:List Value).toArray w (End (λv w'=>v= .bool true/\Fr (λ_=>False) w (λ_=>False) w') (λ_ _=>False)):=by
 refine AE 81 func13 V V V ?_;refine Ac (Ab (Ah V V (Ag ?_)));refine Ac (Ab (EB V Acg V (Af call23 V V (SP (S:=λ_=>False) As0 (by decide)) ?_ Am)));rintro _ w1 ⟨va,f1,h1⟩;rw[Am2]at h1;obtain⟨rfl,ra⟩:=h1;refine Aa V V (D6 V V V (D6 V V V (Ah V V (Ah V V (Aj [(1,va),(2,.int .i64 0)] ⟨V,V,trivial⟩ ?_)))));refine Ac (Ab (EB V Ab7 V (EB V Ab7 V (BR V Atd V (EB V Att V ?_)))));have b2:Blk (w1.alloc (.cells (modeC++modeC).toArray 84)) w1.heap.size (modeC++modeC) 84:=Cf;have f2:Fr (λ_=>False) w1 (λ_=>False) (w1.alloc (.cells (modeC++modeC).toArray 84)):=Fr.alloc _ _ _;generalize w1.alloc (.cells (modeC++modeC).toArray 84)=w2 at b2 f2⊢;refine Af call23 V V (SP (Asz b2) (by decide)) ?_ Am;rintro _ w3 ⟨vb,f3,h3⟩;rw[YW]at h3;obtain⟨rfl,rb⟩:=h3;refine Aa V V (D6 V V V (D6 V V V (Ah V V (Ah V V (Aj [(1,va),(2,.int .i64 0),(3,vb),(4,.int .i64 0)] ⟨V,V,V,V,trivial⟩ ?_)))));have ra3:=Cn ra (λk hk=>(f3.blk k (BB (C8 ra hk) f2.size) (λh=>h)).trans (f2.blk k (C8 ra hk) (λh=>h)));have F3:Fr (λ_=>False) w (λ_=>False) w3:=(f1.none.trans f2).trans f3.none;have hA:=EA ra3;have hB:=EA rb;have la:(C0 K6).length=20:=Wy _;have lb:(C0 JC).length=39:=Wy _;obtain⟨va',hsa,hba,_⟩:=IR hA (lo:=none) (hi:=some (.int .i64 16)) (l:=0) (k:=16) (.inl ⟨rfl,rfl⟩) (.inr rfl) (AW _) (by omega);obtain⟨vb',hsb,hbb,_⟩:=IR hB (lo:=none) (hi:=some (.int .i64 35)) (l:=0) (k:=35) (.inl ⟨rfl,rfl⟩) (.inr rfl) (AW _) (by omega);rw[FI,show(C0 K6).take 16=K6 from Ack K6]at hba;rw[FI,show(C0 JC).take 35=JC from Ack JC]at hbb;obtain⟨ga,ca,hva,_⟩:=hA.val;obtain⟨gb,cb,hvb,_⟩:=hB.val;rw[la]at hva;rw[lb]at hvb;subst hva hvb;refine Ac (Ab (Ah V V (Ag ?_)));refine Ac (Ac (Ab (Aa V V (Al V V (I1 (c:=false) V) V (Aa V V ?_)))));refine A9 (j:=2) V V V (Aa V V (A9 (j:=2) V V V (Al V V (I1 (c:=false) V) V (BW V V V (Aa V V ?_)))));refine A9 (j:=6) V V V (Aa V V (A9 (j:=6) V V V (AI V (AM underlying22) V (A9 (j:=6) V V V (Al V V (I1 (c:=false) V) V (BW V V V (Aa V V ?_)))))));refine A9 (j:=11) V V V (Aa V V (A9 (j:=11) V V V (Ia (vl:=none) (vh:=some (.int .i64 16)) V V V (hsa _) V (A9 (j:=11) V V V (BH V (KW hba) V (A9 (j:=11) V V V (Fg V V Acc V ?_)))))));refine BW V V V (Aa V V ?_);refine A9 (j:=17) V V V (Aa V V (A9 (j:=17) V V V (AI V (AM underlying22) V (A9 (j:=17) V V V (Aa V V (A9 (j:=17) V V V (AI V (GR underlying9) V ?_)))))));refine A9 (j:=17) V V V (Al (v:=.int .i64 39) V V V V (A9 (j:=17) V V V (Al V V (I1 (c:=false) V) V (BW V V V (Aa V V ?_)))));refine A9 (j:=25) V V V (Aa V V (A9 (j:=25) V V V (Aa V V (A9 (j:=25) V V V (AI (v:=.int .i64 35) V (GR underlying9) V ?_)))));refine A9 (j:=25) V V V (Ia (vl:=none) (vh:=some (.int .i64 35)) V V V (hsb _) V (A9 (j:=25) V V V (BH V (KW hbb) V (A9 (j:=25) V V V (Aa V V (A9 (j:=25) V V V (Fg V V Acc V ?_)))))));refine BW V V V (Ag (Fz V (AG λa ha=>Ak ?_)));refine A6 ha (Ac (Ab (Aa V V (Af call15 V V (Yr hB) ?_ Am))));rintro _ w4 ⟨cs,e,rfl,f4,hd⟩;rcases hd with⟨t,ht,rfl,hrep⟩|⟨hno,_⟩;rotate_left
 ·exact absurd YN (hno _)
 obtain rfl:=Ams ht YN;have hrep0:=hrep;have F4:=F3.trans f4;simp only[I_,Rep,RepF,SN.fields,Ty.size,Nat.reduceAdd]at hrep;obtain⟨_,hlen,⟨h0,_⟩,_,_,_,_,_,_,h7,_⟩:=hrep;have hlen':cs.length=10:=hlen;rcases h7 with⟨_,h7⟩|⟨b,o,cap,h7,hSb,hbl,_,_,hRL⟩
 ·cases h7
 obtain⟨ds,hat,hdl,hmode⟩:=RepL.get hRL (i:=1) (t:=H_) rfl;simp only[H_,Rep,RepF,SN.fields,Ty.size,Nat.reduceAdd]at hmode;obtain⟨_,_,_,⟨hd1,_⟩,_⟩:=hmode;refine Aa V V (D6 V V V (D6 V V V (Ct (Xf _) V ?_)));have a5:Blk (w4.alloc (.cells zsheet.toArray 36)) w4.heap.size zsheet 36:=Cf;have f5:Fr (λ_=>False) w4 (λ_=>False) (w4.alloc (.cells zsheet.toArray 36)):=Fr.alloc _ _ _;have s5:(w4.alloc (.cells zsheet.toArray 36)).heap.size=w4.heap.size+1:=by simp
 show WL _ _ _ _ _ _ _ (w4.alloc (.cells zsheet.toArray 36));generalize w4.alloc (.cells zsheet.toArray 36)=w5 at a5 f5 s5⊢;have hone:∀x∈cs,x.oneCell'=true:=(Rep.one _ _ _ hrep0).2;refine An V V (LG a5 V hlen' hone) (Ah V V (Aj [(6,ptr w4.heap.size),(7,.int .i64 0)] ⟨V,V,trivial⟩ ?_));have a6:Blk (w5.setRow w4.heap.size cs.toArray) w4.heap.size cs 36:=a5.setRow _;have k6:(w5.setRow w4.heap.size cs.toArray).heap[b]? =w4.heap[b]? :=(setRow_other _ _ _ _ (by omega)).trans (f5.blk b hbl (λh=>h));have F6:Fr (λ_=>False) w (λ_=>False) (w5.setRow w4.heap.size cs.toArray):=by
  have hs:=F4.size;have:=Ll (v:=.slice none 0 0) F4 (O:=λk=>w4.heap.size<=k) (O':=λk=>w4.heap.size<=k) ((f5.drop (λ_ h=>h.elim)).trans (Fr.setRow cs.toArray (Ay _))) (λk hk=>by omega) (λk hk=>(Iv k hk).elim);rwa[Ku]at this
 generalize w5.setRow w4.heap.size cs.toArray=w6 at a6 k6 F6⊢;have g0:w6.cell? ⟨w4.heap.size,0,none⟩=some (.string bytesP):=At.one (h0▸a6.at_ 0 1);have g7:w6.cell? ⟨w4.heap.size,7,none⟩=some (.slice (some ⟨b,o,none⟩) 2 cap):=At.one (h7▸a6.at_ 7 1);have g1:w6.cell? ⟨b,o+1*6+1,none⟩=some (.string bytesF):=by
  have:=At.one (hd1▸(hat.agree k6).sub 1 1);exact this
 have hidx:(Instr.indexAt 32 (.slice (some ⟨b,o,none⟩) 2 cap) (.int .i64 1)).run prog w6= .ok (.pointer (some ⟨b,o+1*6,none⟩)) w6:=
  ZR (i:=1) underlying32 Gs (by decide)
 have ty32:AC prog 32 false 1:=Gq;refine Ac (Ab (Aa V V (Al V V (E0 (c:=true) V) V (Aa V V ?_))));refine A9 (j:=2) V V V (Ad V (PR _ _ _) V (A9 (j:=2) V V V (Ae V (Ai FT g0) V (A9 (j:=2) V V V (Fg V V Wo V (BW V V V (Aa V V ?_)))))));refine A9 (j:=7) V V V (Ad V (Gl _ _ _) V (A9 (j:=7) V V V (Ae V (Ai ty32 g7) V (A9 (j:=7) V V V (AI V (AM underlying32) V ?_)))));refine A9 (j:=7) V V V (Al V V (E0 (c:=true) V) V (BW V V V (Aa V V ?_)));refine A9 (j:=13) V V V (Ad V (Gl _ _ _) V (A9 (j:=13) V V V (Ae V (Ai ty32 g7) V (A9 (j:=13) V V V (AO V V hidx V (A9 (j:=13) V V V (Ad V (PT _ _ _) V ?_)))))));refine A9 (j:=13) V V V (Ae V (Ai FT g1) V (A9 (j:=13) V V V (Fg V V Wo V (BW V V V (Ah V V (Ag (AJ λa ha=>Ch V ha V ⟨rfl,F6⟩)))))))
theorem Ass{cs:List Value}(hl:cs.length=10)(h1:∀x∈cs,x.oneCell'=true):∃w',(storeVar 36 ⟨w.heap.size,0,none⟩ (.agg cs.toArray)).run prog (w.alloc (.cells zsheet.toArray 36))= .ok () w'/\Blk w' w.heap.size cs 36/\Fr (λ_=>False) w (λ_=>False) w':=by
 have a:Blk (w.alloc (.cells zsheet.toArray 36)) w.heap.size zsheet 36:=Cf;refine⟨_,LG a V hl h1,a.setRow _,⟨rfl,rfl,rfl,by simp,λb hb _=>?_,λb hb=>hb.elim⟩⟩;rw[setRow_other _ _ _ _ (by omega),heap_alloc_old w _ b hb]
theorem Adc:∀{l:List ByteArray}{x:ByteArray},x∈l->x.size<=E9 l
 |y::l,x,h=>by
  simp only[E9];rcases Ao.1 h with rfl|h
  ·omega
  ·have:=Adc h;omega
end Go.Sx