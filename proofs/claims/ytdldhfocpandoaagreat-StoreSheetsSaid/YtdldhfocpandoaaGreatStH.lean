import Derived.Test.YtdldhfocpandoaaGreatStG
import Derived.Laws.IdiomStrings
import Derived.Lib.Strings
set_option maxHeartbeats 8000000
set_option maxRecDepth 8000
namespace Go.Sx
open Go.Proofs Go.Proofs.Tryz
open Go.ChangeMaps (setBlock heap_setBlock_same heap_setBlock_other)
variable{y x:ByteArray}
theorem toList_inj(h:x.data.toList=y.data.toList):x=y:=by
 cases x;cases y;simp only at h;congr 1;exact DB.mp h
variable{r:List UInt8}
theorem YZ{r':List UInt8}(h:Dx x++r=Dx y++r'):x=y/\r=r':=by
 simp only[Dx,Dg]at h;obtain⟨h1,h2⟩:=Qy _ _ _ _ h;have hx:x.data.toList.length=x.size:=by simp only[FH];rfl
 have hy:y.data.toList.length=y.size:=by simp only[FH];rfl
 obtain⟨h3,h4⟩:=List.append_inj h2 (by omega);exact⟨toList_inj h3,h4⟩
theorem Tu:∀(l1 l:List ByteArray) (b r:List UInt8),Bu l1++b=Bu l++r->l1.length<=l.length->∃l2,l=l1++l2/\b=Bu l2++r
 |[],l,b,r,h,_=>⟨l,rfl,by simpa[Bu]using h⟩
 |x::l1,[],b,r,h,hl=>by simp at hl
 |x::l1,y::l,b,r,h,hl=>by
  simp only[Bu,Dg]at h;obtain⟨rfl,h2⟩:=YZ h;obtain⟨l2,rfl,h3⟩:=Tu l1 l b r h2 (by simpa using hl);exact⟨l2,rfl,h3⟩
variable{bs:List UInt8}{v:Value}{w:World}
theorem KW(h:Bts w v bs):(convert 22 9 v).run prog w= .ok (.string ⟨bs.toArray⟩) w:=by
 rcases h.2 with⟨rfl,rfl⟩|⟨b,o,cap,rfl,hb,ha,hc⟩
 ·simp[convert,runUnderlying22,runUnderlying9,runUnderlying5,Conv.bytesToString];rfl
 ·refine run_convert_bytes_back w 22 9 5 _ cap bs underlying22 underlying5 underlying9 (λj hj=>?_);rw[Addr.add_lit];have:=ha j (bv bs[j]) (by simp[hj]);rw[this];rfl
def Seen(w:World)(m:Nat)(tab:List ByteArray):Prop:=
 ∃es clock,w.heap[m]? =some (.map es clock)/\es.toList.map (·.key)=tab.map Value.string/\∀e∈es.toList,e.val= .int .i64 1
variable{tab:List ByteArray}{w':World}
theorem Seen.agree{m:Nat}(h:Seen w m tab)(hb:w'.heap[m]? =w.heap[m]?):Seen w' m tab:=by
 obtain⟨es,clock,h1,h2⟩:=h;exact⟨es,clock,hb.trans h1,h2⟩
theorem Seen.count{m:Nat}(h:Seen w m tab)(ht:∀x∈tab,x.size<=maxLen)(hn:tab.Nodup)(hx:x.size<=maxLen):
 ∃(c:Nat) (w':World),(Instr.lookup 131 (.map (some m)) (.string x) false).run prog w= .ok (.int .i64 (c:Int)) w/\c<=1/\
  (Instr.mapUpdate 131 (.map (some m)) (.string x) (.int .i64 ((c+1:Nat):Int))).run prog w= .ok () w'/\Fr (only m) w (only m) w'/\
  (Instr.lookup 131 (.map (some m)) (.string x) false).run prog w'= .ok (.int .i64 ((c+1:Nat):Int)) w'/\(x∈tab->c=1)/\(x∉tab->c=0/\Seen w' m (tab++[x])):=by
 obtain⟨es,clock,hb,hk,hv⟩:=h;have hkeys:=R3 hk ht;have hc:=λw em=>key9.check w em (Gt hx);have mem_key:∀e∈es.toList,e.key= .string x->x∈tab:=by
  intro e he hek;have:e.key∈tab.map Value.string:=by rw[<-hk];exact BY.2 ⟨e,he,rfl⟩
  obtain⟨y,hy,hye⟩:=BY.1 this;rw[hek]at hye;cases hye;exact hy
 rcases key9.find w (Gt hx) es.toList hkeys with⟨hf,hno⟩|⟨j,e,hf,hj,he⟩
 ·have hnx:x∉tab:=by
   intro hm;have:Value.string x∈es.toList.map (·.key):=by rw[hk];exact BY.2 ⟨x,hm,rfl⟩
   obtain⟨e,he,hee⟩:=BY.1 this;exact hno e he hee
  let es':=es.push ⟨.string x,.int .i64 1,clock⟩;have hb':(setBlock w m (.map es' (clock+1))).heap[m]? =some (.map es' (clock+1)):=heap_setBlock_same hb _;have hseen:Seen (setBlock w m (.map es' (clock+1))) m (tab++[x]):=⟨es',clock+1,hb',by simp[es',hk],by
   intro e he;simp only[es',Array.toList_push,B3,DT]at he;rcases he with he|rfl
   ·exact hv e he
   ·rfl⟩
  refine⟨0,setBlock w m (.map es' (clock+1)),?_,by omega,?_,⟨rfl,rfl,rfl,by simp[setBlock],λb _ hn=>heap_setBlock_other hb _ (λe=>hn e),λ_ h=>.inl h⟩,?_,λh=>absurd h hnx,λ_=>⟨rfl,hseen⟩⟩
  ·simp[Instr.lookup,runUnderlying131,I0 hb,hc,hf,zeroValue3]
  ·simp[Instr.mapUpdate,runUnderlying131,I0 hb,hc,hf,setBlock,setObj,Sem.run,hb,es']
  ·have hkeys':∀e∈es'.toList,∃l,keyOf prog 9 e.key=some l:=by
    intro e he;simp only[es',Array.toList_push,B3,DT]at he;rcases he with he|rfl
    ·exact hkeys e he
    ·exact⟨_,Gt hx⟩
   rcases key9.find (setBlock w m (.map es' (clock+1))) (Gt hx) es'.toList hkeys' with⟨_,hno'⟩|⟨j,e,hf',hj,he⟩
   ·exact absurd V (hno' ⟨.string x,.int .i64 1,clock⟩ (by simp[es']))
   ·have hval:e.val= .int .i64 1:=by
     have hm:=BA hj;simp only[es',Array.toList_push,B3,DT]at hm;rcases hm with hm|rfl
     ·exact hv e hm
     ·rfl
    simp[Instr.lookup,runUnderlying131,I0 hb',hc,hf',hval]
 ·have hxt:x∈tab:=mem_key e (BA hj) he;have hval:e.val= .int .i64 1:=hv e (BA hj);have hjl:j<es.size:=by simpa using(C3.1 hj).1
  have hej:es[j]? =some e:=by simpa using hj
  let es':=es.modify j λe=>{e with key:=.string x,val:=.int .i64 2};have hb':(setBlock w m (.map es' clock)).heap[m]? =some (.map es' clock):=heap_setBlock_same hb _;refine⟨1,setBlock w m (.map es' clock),?_,Ay _,?_,⟨rfl,rfl,rfl,by simp[setBlock],λb _ hn=>heap_setBlock_other hb _ (λe=>hn e),λ_ h=>.inl h⟩,?_,λ_=>rfl,λh=>absurd hxt h⟩
  ·simp[Instr.lookup,runUnderlying131,I0 hb,hc,hf,hval]
  ·have hst:=key9.stays w (Gt hx);simp[Instr.mapUpdate,runUnderlying131,I0 hb,hc,hf,setBlock,setObj,Sem.run,hb,es',hej,he,hst]
  ·have hes':∀i,es'.toList[i]? =if j=i then some {e with key:=.string x,val:=.int .i64 2}else es.toList[i]? :=by
    intro i;simp only[es',Array.getElem?_toList,Array.getElem?_modify];split
    ·rename_i h;subst h;rw[hej];rfl
    ·rfl
   have hkeys':∀e∈es'.toList,∃l,keyOf prog 9 e.key=some l:=by
    intro e' he';obtain⟨i,hi⟩:=Mh he';rw[hes' i]at hi;split at hi
    ·cases hi;exact⟨_,Gt hx⟩
    ·exact hkeys e' (BA hi)
   rcases key9.find (setBlock w m (.map es' clock)) (Gt hx) es'.toList hkeys' with⟨_,hno'⟩|⟨i,e',hf',hi,he'⟩
   ·have:=hes' j;rw[if_pos rfl]at this;exact absurd V (hno' _ (BA this))
   ·have hval':e'.val= .int .i64 2:=by
     have h2:=hes' i;rw[hi]at h2;split at h2
     ·cases h2;rfl
     ·rename_i hji;have k1:tab[j]? =some x:=by
       have h1:(tab.map Value.string)[j]? =some e.key:=by rw[<-hk];simp[hej]
       rw[he]at h1;simpa using h1
      have k2:tab[i]? =some x:=by
       have h1:(tab.map Value.string)[i]? =some e'.key:=by rw[<-hk,Mg,<-h2];rfl
       rw[he']at h1;simpa using h1
      obtain⟨l1,g1⟩:=C3.1 k1;obtain⟨l2,g2⟩:=C3.1 k2;exact absurd ((List.getElem_inj hn).1 (g1.trans g2.symm)) hji
    simp[Instr.lookup,runUnderlying131,I0 hb',hc,hf',hval']
structure SSt(base p m:Nat)(s:RS)(w:World):Prop where
 lp:p<base
 ln:base<=w.heap.size
 mem:∃vb vt,KM w.heap.size p s w vb vt/\(∀k,Aw vb k->k<base)/\(∀k,Aw vt k->base<=k/\k≠m)
 bm:base<=m
 ml:m<w.heap.size
 nodup:s.tab.Nodup
 tabs:∀x∈s.tab,x.size<=maxLen
 sb:s.b.length<=2 ^ 25
 st:s.tab.length<=2 ^ 25
 su:s.used<=s.tab.length
 sn:s.nest<=1001
section
variable{base p m:Nat}{s:RS}{w:World}
theorem SSt.toR(h:SSt base p m s w):RSt w.heap.size p s w:=by
 obtain⟨vb,vt,M,_,_⟩:=h.mem;exact⟨BB h.lp h.ln,Ay _,⟨vb,vt,M⟩,h.nodup,h.tabs,h.sb,h.st,h.su,h.sn⟩
theorem SSt.after(h:SSt base p m s w){s':RS}(h1:RSt w.heap.size p s' w')(f:Fr (only p) w (only p) w')(tr:RQ p w w')(_ht:s'.tab=s.tab):SSt base p m s' w':=by
 obtain⟨vb,vt,M,hb,hv⟩:=h.mem;obtain⟨vb',vt',M'⟩:=h1.mem;have c0:w.cell? ⟨p,0,none⟩=some vb:=by rw[M.blk.cell];rfl
 have c1:w.cell? ⟨p,1,none⟩=some vt:=by rw[M.blk.cell];rfl
 have d0:w'.cell? ⟨p,0,none⟩=some vb':=by rw[M'.blk.cell];rfl
 have d1:w'.cell? ⟨p,1,none⟩=some vt':=by rw[M'.blk.cell];rfl
 have e:vt'=vt:=by have:=tr.1;rw[c1,d1]at this;exact Option.some.inj this
 subst e;refine⟨h.lp,AX h.ln f.size,⟨vb',vt',⟨M'.blk,M'.bts,λk hk=>⟨BB (M'.nb k hk).1 f.size,(M'.nb k hk).2⟩,M'.row,λk hk=>⟨BB (M'.nt k hk).1 f.size,(M'.nt k hk).2⟩⟩,λk hk=>hb k (tr.2 _ _ c0 d0 k hk),hv⟩,h.bm,BB h.ml f.size,h1.nodup,h1.tabs,h1.sb,h1.st,h1.su,h1.sn⟩
theorem SSt.keep(h:SSt base p m s w){U U':Nat->Prop}(f:Fr U w U' w')(hU:∀k,U k->k=m):SSt base p m s w':=by
 obtain⟨vb,vt,M,hb,hv⟩:=h.mem;have hbm:=h.bm;have hlp:=h.lp;have hln:=h.ln;have k1:∀k,k<w.heap.size->k≠m->w'.heap[k]? =w.heap[k]? :=λk hk hn=>f.blk k hk (λhu=>hn (hU k hu));refine⟨h.lp,AX h.ln f.size,⟨vb,vt,⟨(k1 p (by omega) (by omega)).trans M.blk,M.bts.keepB f.size (λk hk=>k1 k (M.nb k hk).1 (by have:=hb k hk;omega)),λk hk=>⟨BB (M.nb k hk).1 f.size,(M.nb k hk).2⟩,Cn M.row (λk hk=>k1 k (M.nt k hk).1 (hv k hk).2),λk hk=>⟨BB (M.nt k hk).1 f.size,(M.nt k hk).2⟩⟩,hb,hv⟩,h.bm,BB h.ml f.size,h.nodup,h.tabs,h.sb,h.st,h.su,h.sn⟩
variable{vb:Value}
theorem SSt.setB(h:SSt base p m s w){vt:Value}(M:KM w.heap.size p s w vb vt){v':Value}(hb':Bts w v' bs)(ho:∀k,Aw v' k->Aw vb k)(hl:bs.length<=2 ^ 25):
 (storeVar 22 ⟨p,0,none⟩ v').run prog w= .ok () (w.setRow p [v',vt,.int .i64 s.used,.int .i64 s.nest].toArray)/\SSt base p m {s with b:=bs} (w.setRow p [v',vt,.int .i64 s.used,.int .i64 s.nest].toArray):=by
 obtain⟨vb0,vt0,M0,hb,hv⟩:=h.mem;have e:=M0.blk.symm.trans M.blk;simp only[Option.some.injEq,Obj.cells.injEq,Gc]at e;obtain⟨rfl,rfl⟩:=e;have hst:=CG (P:=prog) (t:=22) (n:=1) (agg:=false) (b:=p) (o:=0) (v:=v') (vs:=[v']) C_ (by rcases hb'.val with⟨_,_,rfl,_⟩;rfl) rfl (by rcases hb'.val with⟨_,_,rfl,_⟩;simp[Value.oneCell']) M.blk (by simp);rw[W5]at hst;have hlp:=h.lp;refine⟨hst,⟨h.lp,by simpa using h.ln,⟨v',vt,⟨M.blk.setRow _,hb'.keepB (by simp) (λk hk=>setRow_other _ _ _ _ (M.nb k (ho k hk)).2),λk hk=>by simpa using M.nb k (ho k hk),Cn M.row (λk hk=>setRow_other _ _ _ _ (M.nt k hk).2),λk hk=>by simpa using M.nt k hk⟩,λk hk=>hb k (ho k hk),hv⟩,h.bm,by simpa using h.ml,h.nodup,h.tabs,hl,h.st,h.su,h.sn⟩⟩
theorem SSt.setT(h:SSt base p m s w){vt:Value}(M:KM w.heap.size p s w vb vt){v':Value}(f:Fr (Aw vt) w (Aw v') w')(hr:w'.ownsRow 0 9 1 v' (s.tab++[x]).length ((s.tab++[x]).map Value.string))(hx:x.size<=maxLen)(hn:x∉s.tab)(hl:s.tab.length+1<=2 ^ 25):
 (storeVar 44 ⟨p,1,none⟩ v').run prog w'= .ok () (w'.setRow p [vb,v',.int .i64 s.used,.int .i64 s.nest].toArray)/\SSt base p m {s with tab:=s.tab++[x]} (w'.setRow p [vb,v',.int .i64 s.used,.int .i64 s.nest].toArray)/\(w'.setRow p [vb,v',.int .i64 s.used,.int .i64 s.nest].toArray).heap[m]? =w.heap[m]? :=by
 obtain⟨vb0,vt0,M0,hb,hv⟩:=h.mem;have e:=M0.blk.symm.trans M.blk;simp only[Option.some.injEq,Obj.cells.injEq,Gc]at e;obtain⟨rfl,rfl⟩:=e;have hlp:=h.lp;have hln:=h.ln;have hbm:=h.bm;have hml:=h.ml;have hpv:w'.heap[p]? =w.heap[p]? :=f.blk p (by omega) (λhp=>by have:=(hv p hp).1;omega);have hblk:Blk w' p [vb,vt,.int .i64 s.used,.int .i64 s.nest] 92:=hpv.trans M.blk;have hst:=CG (P:=prog) (w:=w') (t:=44) (n:=1) (agg:=false) (b:=p) (o:=1) (v:=v') (vs:=[v']) HI (J3 hr).1 rfl (by simpa using(J3 hr).2) hblk (by simp);rw[Acq]at hst;have hnew:∀k,Aw v' k->base<=k/\k≠m:=by
  intro k hk;rcases f.own k hk with h1|h1
  ·exact hv k h1
  ·exact⟨by omega,by omega⟩
 refine⟨hst,⟨h.lp,by simp only[E8];exact AX h.ln f.size,⟨vb,v',⟨hblk.setRow _,?_,?_,?_,?_⟩,hb,hnew⟩,h.bm,by simp only[E8];exact BB h.ml f.size,?_,?_,h.sb,by simpa using hl,by have:=h.su;simp;omega,h.sn⟩,?_⟩
 ·refine M.bts.keepB (by simpa using f.size) (λk hk=>?_);rw[setRow_other _ _ _ _ (M.nb k hk).2,f.blk k (M.nb k hk).1 (λhvt=>by have:=hb k hk;have:=(hv k hvt).1;omega)]
 ·intro k hk;have:=M.nb k hk;exact⟨by simp only[E8];exact BB this.1 f.size,this.2⟩
 ·exact Cn hr (λk hk=>setRow_other _ _ _ _ (by have:=(hnew k hk).1;omega))
 ·intro k hk;exact⟨by simpa using C8 hr hk,by have:=(hnew k hk).1;omega⟩
 ·rw[Rx];exact⟨h.nodup,by simp,λa ha b hb=>by rw[DT.1 hb];exactλe=>hn (e▸ha)⟩
 ·intro y hy;rcases B3.1 hy with h1|h1
  ·exact h.tabs y h1
  ·rw[DT.1 h1];exact hx
 ·rw[setRow_other _ _ _ _ (by omega),f.blk m hml (λhvt=>(hv m hvt).2 rfl)]
end
def Aef(p:Nat)(bs:List UInt8)(w:World)(v:Value)(w':World):Prop:=
 v= .tuple #[]/\∃tab r,bs=num tab.length++Bu tab++r/\RSt w'.heap.size p ⟨r,tab,0,0⟩ w'/\Fr (only p) w (only p) w'
def Aee(p:Nat)(bs:List UInt8)(w:World)(ch:List PanicEntry)(w':World):Prop:=
 ch=Eg/\(∀tab r,tab.Nodup->bs≠num tab.length++Bu tab++r)/\Fr (only p) w (only p) w'
theorem Ase:w.ownsRow 0 9 1 (.slice none 0 0) ([]:List ByteArray).length (([]:List ByteArray).map Value.string):=World.ownsRow_nil _ _ _ _
theorem PU{p base:Nat}{w1 w2:World}{U':Nat->Prop}(f0:Fr (λ_=>False) w (λ_=>False) w1)(f:Fr (λb=>b=p\/base<=b) w1 U' w2)(hb:w.heap.size<=base):Fr (only p) w (only p) w2:=
 ⟨f.os.trans f0.os,f.tape.trans f0.tape,f.output.trans f0.output,AX f0.size f.size,λb hb' hn=>by
  have:=f0.size;rw[f.blk b (by omega) (λh=>h.elim hn (λh=>by omega)),f0.blk b hb' (λh=>h)],λb hb'=>.inl hb'⟩
variable{vb:Value}
theorem c31{p:Nat}(hblk:Blk w p [vb,.slice none 0 0,.int .i64 0,.int .i64 0] 92)(hbts:Bts w vb bs)(hnb:∀k,Aw vb k->k<w.heap.size/\k≠p)(hl:bs.length<=2 ^ 25):
 Calls prog 31 [ptr p].toArray w (End (Aef p bs w) (Aee p bs w)):=by
 refine AE 49 func31 V V V ?_;refine Ac (Ab (XB Ab6 V ?_));have f0:Fr (λ_=>False) w (λ_=>False) (w.alloc (.map #[] 0)):=Fr.alloc _ _ _;have s0:(w.alloc (.map #[] 0)).heap.size=w.heap.size+1:=by simp
 have a0:(w.alloc (.map #[] 0)).heap[w.heap.size]? =some (.map #[] 0):=heap_alloc_new _ _;generalize w.alloc (.map #[] 0)=w1 at f0 s0 a0⊢;have hpl:=hblk.lt;have S0:SSt w.heap.size p w.heap.size ⟨bs,[],0,0⟩ w1:=by
  refine⟨hpl,f0.size,⟨vb,.slice none 0 0,⟨(f0.blk p hpl (λh=>h)).trans hblk,hbts.keep0 f0,λk hk=>⟨by have:=(hnb k hk).1;omega,(hnb k hk).2⟩,Ase,λk hk=>(Iv k hk).elim⟩,λk hk=>(hnb k hk).1,λk hk=>(Iv k hk).elim⟩,Ay _,by omega,by simp,by simp,hl,by simp,by simp,by simp⟩
 have seen0:Seen w1 w.heap.size []:=⟨#[],0,a0,rfl,by simp⟩;generalize hm:w.heap.size=m at*;refine Ah V V (Aj [(0,ptr p),(2,.map (some m))] ⟨V,V,trivial⟩ ?_);refine Ac (Ab (Aa V V (Af call54 V V (SQ S0.toR) ?_ ?_)));rotate_left
 ·rintro ch w2 ⟨rfl,hno,s',h1,f1,_⟩ a ha;refine Ap (A8 ha ⟨rfl,λtab r _ e=>?_,?_⟩)
  ·refine hno tab.length ⟨Bu tab++r,[],0,0⟩ (RS.eat_iff.2 ⟨by rw[e,Dg],rfl⟩) ?_;have hge:∀l:List ByteArray,l.length<=(Bu l).length:=by
    intro l;induction l with
    |nil=>simp
    |cons x l ih=>
     have:=HC x.size;simp only[Bu,Dx,Bh,Cg];omega
   have:=hge tab;show tab.length<=(Bu tab++r).length;rw[Bh];omega
  ·exact PU f0 (f1.drop (λb hb=>.inl hb):Fr (λb=>b=p\/m<=b) w1 _ w2) (by omega)
 rintro _ w2 ⟨n,s1,he,hle,rfl,h1,f1,tr1⟩;obtain⟨he1,he2⟩:=RS.eat_iff.1 he;simp only at he1;have hs1:s1.tab=[]/\s1.used=0/\s1.nest=0:=by rw[he2];exact⟨rfl,rfl,rfl⟩
 have S1:=S0.after h1 f1 tr1 hs1.1;have hn25:n<=2 ^ 25:=by have:=h1.sb;omega
 have F1:Fr (λb=>b=p\/m<=b) w1 (λb=>b=p\/m<=b) w2:=f1.drop (λb hb=>.inl hb);refine Aa V V (Aj [(0,ptr p),(2,.map (some m)),(7,.int .i64 ((n:Nat):Int)),(8,.int .i64 ((0:Nat):Int))] ⟨V,V,V,V,trivial⟩ ?_);refine AF (BP (ι:=Nat×RS) (λi=>[(0,ptr p),(2,.map (some m)),(7,.int .i64 ((n:Nat):Int)),(8,.int .i64 ((i.1:Nat):Int))])
  (λi w'=>i.1<=n/\SSt m p m i.2 w'/\Seen w' m i.2.tab/\Fr (λb=>b=p\/m<=b) w1 (λb=>b=p\/m<=b) w'/\i.2.tab.length=i.1/\s1.b=Bu i.2.tab++i.2.b/\i.2.used=0/\i.2.nest=0) (λi=>n-i.1) (0,s1)
  ⟨V,V,V,V,trivial⟩ ⟨AW _,S1,by rw[hs1.1];exact seen0.agree (f1.blk m (by omega) (λe=>by have:m=p:=e;omega)),F1,by rw[hs1.1];rfl,by rw[hs1.1];rfl,hs1.2.1,hs1.2.2⟩ ?_)
 rintro⟨i,si⟩ w3 ⟨hi,S,seen,F,htl,hsb,hus,hne⟩;simp only at hi S seen F htl hsb hus hne⊢
 --what a table would have to begin with
 have goal:∀tab r,bs=num tab.length++Bu tab++r->tab.length=n/\∃l2,tab=si.tab++l2/\si.b=Bu l2++r:=by
  intro tab r e;have e':num n++s1.b=num tab.length++(Bu tab++r):=by rw[<-he1,e,Dg]
  obtain⟨h1,h2⟩:=Qy _ _ _ _ e';refine⟨h1.symm,?_⟩;rw[hsb]at h2;exact Tu _ _ _ _ h2 (by omega)
 refine Ac (Ab (Al V V V V (Ag (Ac ?_))));refine AN V (λht=>AG λa ha=>Ak ?_) (λhf=>BC λa ha=>AD (AD (B_ ?_)))
 ·have hlt:i<n:=by simp at ht;omega
  have pan:∀(ch:List PanicEntry) (w':World) (a:Act),True:=λ_ _ _=>trivial;refine A6 ha (Ac (AF (Ac (Ab (Aa V V (Af call54 V V (SQ S.toR) ?_ ?_))))));rotate_left
  ·rintro ch w4 ⟨rfl,hno,s',h4,f4,_⟩ a ha;refine Ap (Gd (Ap (Ap (Gd (A8 ha ⟨rfl,λtab r _ e=>?_,?_⟩)))))
   ·obtain⟨h5,l2,rfl,h6⟩:=goal tab r e;cases l2 with
    |nil=>simp at h5;omega
    |cons x l2=>
     refine hno x.size ⟨x.data.toList++(Bu l2++r),si.tab,si.used,si.nest⟩ (RS.eat_iff.2 ⟨by rw[h6];simp only[Bu,Dx,Dg],rfl⟩) ?_;show x.size<=(x.data.toList++(Bu l2++r)).length;have:x.data.toList.length=x.size:=by simp only[FH];rfl
     rw[Bh];omega
   ·exact PU f0 (F.trans (f4.drop (λb hb=>.inl hb):Fr (λb=>b=p\/m<=b) w3 _ w4)) (by omega)
  rintro _ w4 ⟨q,s4,he4,hle4,rfl,h4,f4,tr4⟩;obtain⟨hb4,hs4⟩:=RS.eat_iff.1 he4;have ht4:s4.tab=si.tab/\s4.used=0/\s4.nest=0:=by rw[hs4];exact⟨rfl,hus,hne⟩
  have S4:=S.after h4 f4 tr4 ht4.1;have hmp:m≠p:=by have:=S.lp;omega
  have seen4:Seen w4 m s4.tab:=by rw[ht4.1];exact seen.agree (f4.blk m S.ml hmp)
  have F4:Fr (λb=>b=p\/m<=b) w1 (λb=>b=p\/m<=b) w4:=F.trans (f4.drop (λb hb=>.inl hb));obtain⟨vb4,vt4,M4,_,_⟩:=S4.mem;have d0:w4.cell? ⟨p,0,none⟩=some vb4:=by rw[M4.blk.cell];rfl
  obtain⟨v5,hsl5,hbts5,hown5⟩:=IR M4.bts (lo:=none) (hi:=some (.int .i64 (q:Int))) (l:=0) (k:=q) (.inl ⟨rfl,rfl⟩) (.inr rfl) (AW _) hle4;obtain⟨v6,hsl6,hbts6,hown6⟩:=IR M4.bts (lo:=some (.int .i64 (q:Int))) (hi:=none) (l:=q) (k:=s4.b.length) (.inr rfl) (.inl ⟨rfl,rfl⟩) hle4 (Ay _);rw[E5]at hbts6;rw[FI]at hbts5;have hsb4:=S4.sb;obtain⟨hst5,S5⟩:=S4.setB M4 hbts6 hown6 (by simp only[ID];omega);generalize hx:(⟨(s4.b.take q).toArray⟩:ByteArray)=x at*;have hxl:x.data.toList=s4.b.take q:=by rw[<-hx]
  have hxs:x.size=q:=by
   have:x.size=x.data.toList.length:=by simp only[FH];rfl
   rw[this,hxl];simp;omega
  have hxm:x.size<=maxLen:=by simp only[maxLen];omega
  have hsplit:s4.b=x.data.toList++s4.b.drop q:=by rw[hxl,IG]
  have hent:si.b=Dx x++s4.b.drop q:=by rw[hb4,Dx,hxs,Dg,<-hsplit]
  have hstr:(convert 22 9 v5).run prog w4= .ok (.string x) w4:=by rw[<-hx];exact KW hbts5
  refine Ah V V (Ag ?_);refine Ac (Ab (Aa V V (AR V V (Ad V (I4 _ _ _) V (Ae V (Ai C_ d0) V (Aa V V (Ia (vl:=none) (vh:=some (.int .i64 ((q:Nat):Int))) V V V (hsl5 _) V ?_)))))));refine BH V hstr V (Ah V V (Ag ?_));refine Ac (Ab (Aa V V (Aa V V (AR V V (Ad V (I4 _ _ _) V (Ae V (Ai C_ d0) V (Aa V V (Ia (vl:=some (.int .i64 ((q:Nat):Int))) (vh:=none) V V V (hsl6 _) V ?_))))))));refine AR V V (Ad V (I4 _ _ _) V (An V V hst5 (Ag ?_)));have F5:Fr (λb=>b=p\/m<=b) w1 (λb=>b=p\/m<=b) (w4.setRow p [v6,vt4,.int .i64 s4.used,.int .i64 s4.nest].toArray):=F4.trans (Fr.setRow _ (.inl rfl));have seen5:Seen (w4.setRow p [v6,vt4,.int .i64 s4.used,.int .i64 s4.nest].toArray) m s4.tab:=seen4.agree (setRow_other _ _ _ _ hmp);generalize w4.setRow p [v6,vt4,.int .i64 s4.used,.int .i64 s4.nest].toArray=w5 at S5 F5 seen5⊢;obtain⟨c,w6,hlk,hc1,hup,f6,hlk2,hin,hout⟩:=seen5.count S5.tabs S5.nodup hxm;have S6:=S5.keep f6 (λk hk=>hk);have F6:Fr (λb=>b=p\/m<=b) w1 (λb=>b=p\/m<=b) w6:=F5.trans (f6.drop (λb hb=>.inr (by have:b=m:=hb;omega)));refine Ac (Ab (Aa V V (Aa V V (RU V V hlk V (Al V V (v:=.int .i64 ((c+1:Nat):Int)) ?_ V (XC V V V hup (Ag ?_)))))))
  ·exact congrArg (λv=>Result.ok v w5) (Cl (by omega))
  refine Ac (Ac (Ab (Aa V V (Aa V V (RU V V hlk2 V (Al V V (D2 (c:=decide (0<c)) (BM.2 (by omega))) V (Ag ?_)))))));refine AN V (λht=>Ab (HY V V (λa ha=>?_) V V)) (λhf=>AG λa ha=>Ak ?_)
  ·have hcp:0<c:=B7 ht;have hxin:x∈si.tab:=by
    by_cases h:x∈s4.tab
    ·rw[<-ht4.1];exact h
    ·have:=(hout h).1;omega
   refine Ap (Gd (Ap (Ap (Gd (A8 ha ⟨rfl,λtab r hnd e=>?_,PU f0 F6 (by omega)⟩)))));obtain⟨h5,l2,rfl,h6⟩:=goal tab r e;cases l2 with
   |nil=>simp at h5;omega
   |cons y l2=>
    rw[hent]at h6;simp only[Bu,Dg]at h6;obtain⟨rfl,_⟩:=YZ h6;exact(Rx.1 hnd).2.2 x hxin x (by simp) V
  ·have hc0:c=0:=by have:=B2 hf;omega
   have hxn:x∉s4.tab:=λh=>by have:=hin h;omega
   obtain⟨_,seen6⟩:=hout hxn;obtain⟨vb6,vt6,M6,_,hv6⟩:=S6.mem;have g1:w6.cell? ⟨p,1,none⟩=some vt6:=by rw[M6.blk.cell];rfl
   refine A6 ha (Ab (Aa V V (Aa V V (AR V V (Ad V (Oa _ _ _) V (Ae V (Ai HI g1) V (Aa V V (BR V V9 V ?_))))))));have f7:Fr (λ_=>False) w6 (λ_=>False) (w6.alloc (.cells [Value.string x].toArray 9)):=Fr.alloc _ _ _;obtain⟨v8,w8,hr8,r8,f8⟩:=So (w:=w6.alloc (.cells [Value.string x].toArray 9)) (ty:=44) (ys:=[x]) (L4 M6.row _) (W6 (n:=1) (c:=1) Cf rfl) (by have:=S4.st;simp;omega);have f68:Fr (Aw vt6) w6 (Aw v8) w8:=(Fr.alloc _ _ _).trans f8;have htab:s4.tab.length=i:=by rw[ht4.1];exact htl
   obtain⟨hst9,S9,hm9⟩:=S6.setT M6 f68 r8 hxm hxn (by show s4.tab.length+1<=_;omega);refine CX V V hr8 V (AR V V (Ad V (Oa _ _ _) V (An V V hst9 (A2 λa ha=>BK (Ak ?_)))));refine A6 ha (Ab (Al V V V V (Aa V V (A2 λa ha=>Ak ?_))));refine⟨(i+1,_),ha.weak ⟨rfl,rfl,rfl,by show some _=some _;rw[Cl (by omega)],trivial⟩,⟨hlt,S9,seen6.agree hm9,?_,?_,?_,ht4.2.1,ht4.2.2⟩,by simp only;omega⟩
   ·exact F6.trans ((f68.drop (λb hb=>.inr (hv6 b hb).1)).trans (Fr.setRow _ (.inl V)))
   ·show(s4.tab++[x]).length=i+1;simp[htab]
   ·show s1.b=Bu (s4.tab++[x])++s4.b.drop q;rw[Tv,ht4.1,Dg,<-hent];exact hsb
 ·have:i=n:=by simp at hf;omega
  subst this;refine B9 V ha ⟨rfl,si.tab,si.b,?_,?_,PU f0 F (by omega)⟩
  ·rw[htl,Dg,<-hsb];exact he1
  ·have:=S.toR;cases si;simp only at hus hne;subst hus hne;exact this
def Mp(bs:List UInt8)(t:T):Prop:=
 ∃tab r s',bs=num tab.length++Bu tab++r/\tab.Nodup/\AU t (.st .sheet) ⟨r,tab,0,0⟩=some s'/\s'.b=[]/\s'.used=tab.length
def body(bs:List UInt8):List UInt8:=(bs.take (bs.length-4)).drop 4
structure GC(bs:List UInt8)(t:T):Prop where
 long:bs.length<=16777216
 short:9<=bs.length
 magic:bs.take 4=magicB
 sum:C0 (bs.take (bs.length-4))=bs
 parse:Mp (body bs) t
def Hq(bs:List UInt8):Int:=
 if 16777216<bs.length then 2 else if bs.length<9\/bs.take 4≠magicB then 5 else if C0 (bs.take (bs.length-4))≠bs then 440 else 5
def zsheet:List Value:=[.string ⟨#[]⟩,.slice none 0 0,.slice none 0 0,.slice none 0 0,.slice none 0 0,.slice none 0 0,.slice none 0 0,.slice none 0 0,.slice none 0 0,.slice none 0 0]
theorem Xf(w:World):(zeroValue 36).run prog w= .ok (.agg zsheet.toArray) w:=zeroValue36 w
def Og:T:=.agg .sheet [.str ⟨#[]⟩,.list [],.list [],.list [],.list [],.list [],.list [],.list [],.list [],.list []]
theorem As0{S:Nat->Prop}:Rep w S Og (.st .sheet) zsheet:=by
 simp only[Og,zsheet,Rep,RepF,SN.fields,SN.size,Ty.size,Cg,DS,Oy,FI,JH,HQ,Nat.reduceAdd,Aa8,true_and,Gc,true_or];exact AW _
def Rg(bs:List UInt8)(w:World)(v:Value)(w':World):Prop:=
 ∃cs e,v= .tuple #[.agg cs.toArray,.int .i64 e]/\Fr (λ_=>False) w (λ_=>False) w'/\
  ((∃t,GC bs t/\e=0/\Rep w' (λb=>w.heap.size<=b) t (.st .sheet) cs)\/((∀t,¬GC bs t)/\e=Hq bs/\cs=zsheet))
theorem Acg:(Instr.build 36 #[]).run prog w= .ok (.agg zsheet.toArray) w:=by
 simp[Instr.build,zeroValue36,runUnderlying36,Value.cells,Instr.fill,zsheet]
def G4(w:World)(b c:Nat)(x:List Value)(e:Int):World:=(w.setRow b x.toArray).setRow c [Value.int .i64 e].toArray
theorem Adw:∀x∈zsheet,x.oneCell'=true:=by
 intro x hx;simp only[zsheet,Ao,AB,or_false]at hx;rcases hx with h|h|h|h|h|h|h|h|h|h<;>subst h<;>rfl
variable{b:Nat}
theorem LG{cs vs:List Value}(hb:Blk w b cs 36)(hc:cs.length=10)(hv:vs.length=10)(h1:∀x∈vs,x.oneCell'=true):(storeVar 36 ⟨b,0,none⟩ (.agg vs.toArray)).run prog w= .ok () (w.setRow b vs.toArray):=by
 have:=CG (P:=prog) (v:=.agg vs.toArray) Ev rfl hv h1 hb (o:=0) (by omega);rwa[show Ci cs 0 vs=vs by simp[Ci,hc,hv]]at this
variable{e:Int}{c:Nat}
theorem W_{y:Value}(hc:Blk w c [y] 37):(storeVar 37 ⟨c,0,none⟩ (.int .i64 e)).run prog w= .ok () (w.setRow c [Value.int .i64 e].toArray):=by
 have:=CG (P:=prog) (w:=w) (t:=37) (n:=1) (agg:=false) (b:=c) (o:=0) (v:=.int .i64 e) (vs:=[.int .i64 e]) Nm rfl rfl (by simp[Value.oneCell']) hc (by simp);rwa[NU]at this
theorem d30_idle:CallsD prog 30 [ptr b,ptr c].toArray .returning w λe u' w'=>e= .returned (.tuple #[])/\u'= .returning/\w'=w:=by
 refine callsD_of_wpS func30 V λc₀ cs hu=>?_;have hrec:recoverD (c₀::cs)=none:=by simp only[recoverD,hu]
 refine wpS_seq (QV (n:=12) (.inr ⟨hrec,rfl,rfl⟩) V V (λa ha=>?_) (Km 12 [ptr b,ptr c] (by simp)));refine wpS_of_wp ?_;refine A6 ha (Ac (Ab (Aa V V (Ff V V ZF Aca V (Ag (Fz V (AG λa ha=>?_)))))));refine⟨ha.defers,.returning,by rw[<-hu],_,results_none V _ _ _,rfl,rfl,rfl⟩
theorem Amn{x:List Value}{y:Value}(hb:Blk w b x 36)(hx:x.length=10)(hc:Blk w c [y] 37)(hbc:b≠c):
 CallsD prog 30 [ptr b,ptr c].toArray (.panicking Eg) w λe u' w'=>e= .returned (.tuple #[])/\u'=IV/\w'=G4 w b c zsheet 5:=by
 refine callsD_of_wpS func30 V λc₀ cs hu=>?_;have hrec:recoverD (c₀::cs)=some (D9,{c₀ with mode:=IV}::cs):=by simp only[recoverD,hu,Eg,IV,D9]
 refine wpS_seq (QV (n:=12) (.inl hrec) V V (λa ha=>?_) (Km 12 [ptr b,ptr c] (by simp)));refine wpS_of_wp ?_;have hc':Blk (w.setRow b zsheet.toArray) c [y] 37:=(setRow_other w b c _ (λe=>hbc e.symm)).trans hc;refine A6 ha (Ac (Ab (Aa V V (Ff V V PZ Ab_ V (Ag (Ga V ?_))))));refine Ac (Ac (Ab (Aa V V (EB V Wq V (RV V Ws V (Ff V V PZ Ab9 V (Ag (Fz V (AG λa ha=>Ak ?_)))))))));refine A6 ha (Ab (EB V Acg V (An V V (LG hb hx V Adw) (An V V (W_ hc') (A2 λa ha=>?_)))));refine⟨ha.defers,IV,rfl,_,results_none V _ _ _,rfl,rfl,rfl⟩
def Pm(b c:Nat):Deferred:={target:=.fn (.func 30) #[ptr b,ptr c],args:=#[]++#[]}
section
variable{R:Value->World->Prop}{Sx:List PanicEntry->World->Prop}{w:World}{b c:Nat}{x:List Value}{e:Int}{m:Env}{n:Nat}{a:Act}{fn:Func}
theorem Ash(hres:fn.results=#[.cell 2 36,.cell 3 37])(ha:Loc n [] m a)(h2:m.get 2=some (ptr b))(h3:m.get 3=some (ptr c))(hb:Blk w b x 36)(hx:x.length=10)(hc:Blk w c [.int .i64 e] 37)(h:R (.tuple #[.agg x.toArray,.int .i64 e]) w):
 bodyPostD prog fn (End R Sx) .ret a w:=by
 show Leaves prog fn a.tmps (End R Sx) a.defers .returning w;rw[ha.defers];exact⟨_,ND hres (ha.slot 2 _ h2) (ha.slot 3 _ h3) (AS Ev hx hb.all) (Ai Nm hc.cell0),h⟩
theorem Asi(hres:fn.results=#[.cell 2 36,.cell 3 37])(ha:Loc n [Pm b c] m a)(h2:m.get 2=some (ptr b))(h3:m.get 3=some (ptr c))(hb:Blk w b x 36)(hx:x.length=10)(hc:Blk w c [.int .i64 e] 37)(h:R (.tuple #[.agg x.toArray,.int .i64 e]) w):
 bodyPostD prog fn (End R Sx) .ret a w:=by
 show Leaves prog fn a.tmps (End R Sx) a.defers .returning w;rw[ha.defers];refine leaves_cons (f:=30) (args:=[ptr b,ptr c].toArray) (by simp) (by simp[invoke,call30]) (d30_idle.mono ?_);rintro e u' w' ⟨rfl,rfl,rfl⟩;exact⟨_,ND hres (ha.slot 2 _ h2) (ha.slot 3 _ h3) (AS Ev hx hb.all) (Ai Nm hc.cell0),h⟩
theorem Asj(hres:fn.results=#[.cell 2 36,.cell 3 37])(ha:Loc n [Pm b c] m a)(h2:m.get 2=some (ptr b))(h3:m.get 3=some (ptr c)){y:Value}(hb:Blk w b x 36)(hx:x.length=10)(hc:Blk w c [y] 37)(hbc:b≠c)
 (h:R (.tuple #[.agg zsheet.toArray,.int .i64 5]) (G4 w b c zsheet 5)):bodyPostD prog fn (End R Sx) (.panic Eg) a w:=by
 show Leaves prog fn a.tmps (End R Sx) a.defers (.panicking Eg) w;rw[ha.defers];refine leaves_cons (f:=30) (args:=[ptr b,ptr c].toArray) (by simp) (by simp[invoke,call30]) ((Amn hb hx hc hbc).mono ?_);rintro e u' w' ⟨rfl,rfl,rfl⟩;have hb':Blk (G4 w b c zsheet 5) b zsheet 36:=(setRow_other _ c b _ hbc).trans (hb.setRow _);have hc':Blk (G4 w b c zsheet 5) c [.int .i64 5] 37:=Blk.setRow ((setRow_other _ b c _ (λe=>hbc e.symm)).trans hc) _;exact⟨_,ND hres (ha.slot 2 _ h2) (ha.slot 3 _ h3) (AS Ev V hb'.all) (Ai Nm hc'.cell0),h⟩
end
theorem Ar7(h:16777216<bs.length):(∀t,¬GC bs t)/\Hq bs=2:=⟨λt d=>by have:=d.long;omega,by unfold Hq;rw[if_pos h]⟩
theorem Aa_(h0:¬16777216<bs.length)(h:bs.length<9\/bs.take 4≠magicB):(∀t,¬GC bs t)/\Hq bs=5:=
 ⟨λt d=>h.elim (λh=>by have:=d.short;omega) (λh=>h d.magic),by unfold Hq;rw[if_neg h0,if_pos h]⟩
theorem Ar8(h0:¬16777216<bs.length)(h:¬(bs.length<9\/bs.take 4≠magicB))(h2:C0 (bs.take (bs.length-4))≠bs):(∀t,¬GC bs t)/\Hq bs=440:=
 ⟨λt d=>h2 d.sum,by unfold Hq;rw[if_neg h0,if_neg h,if_pos h2]⟩
theorem Aba(h0:¬16777216<bs.length)(h:¬(bs.length<9\/bs.take 4≠magicB))(h2:¬C0 (bs.take (bs.length-4))≠bs)(h3:∀t,¬Mp (body bs) t):(∀t,¬GC bs t)/\Hq bs=5:=
 ⟨λt d=>h3 t d.parse,by unfold Hq;rw[if_neg h0,if_neg h,if_neg h2]⟩
theorem Q8{P:Program}{t:TypeId}:(binOp .neq t (.string x) (.string y)).run P w= .ok (.bool (!decide (x=y))) w:=by
 have h1:binOp .neq t (.string x) (.string y)=pure (.bool !(x.toList==y.toList)):=rfl;have h2:(x.toList==y.toList)=decide (x=y):=by
  rw[Go.Lib.toList_data,Go.Lib.toList_data,Bool.eq_iff_iff];simp only[beq_iff_eq,decide_eq_true_eq];exact⟨toList_inj,λe=>by rw[e]⟩
 rw[h1,h2];rfl
theorem Atm{g:Option Addr}{l:Nat}:(Instr.build 92 #[(0,.slice g l c)]).run prog w= .ok (.agg [.slice g l c,.slice none 0 0,.int .i64 0,.int .i64 0].toArray) w:=by
 simp[Instr.build,zeroValue92,runUnderlying92,Value.cells,Instr.fill,sizeOf22]
theorem Rj{O:Nat->Prop}{x:List Value}(hb:O b)(hc:O c):Fr O w O (G4 w b c x e):=(Fr.setRow _ hb).trans (Fr.setRow _ hc)
theorem Yj{x y:List Value}{z:Value}(hb:Blk w b y 36)(hc:Blk w c [z] 37)(hbc:b≠c):Blk (G4 w b c x e) b x 36/\Blk (G4 w b c x e) c [.int .i64 e] 37:=
 ⟨(setRow_other _ c b _ hbc).trans (hb.setRow _),Blk.setRow ((setRow_other _ b c _ (λe=>hbc e.symm)).trans hc) _⟩
mutual
theorem Pg:∀(t:T) (f:Ty) (s s':RS),AU t f s=some s'->s'.tab=s.tab
 | .int n,f,s,s',h=>by
  cases f<;>simp only[AU]at h<;>try cases h
  split at h
  ·exact(FB h).2.1
  ·cases h
 | .bool n,f,s,s',h=>by
  cases f<;>simp only[AU]at h<;>try cases h
  exact(FB h).2.1
 | .str x,f,s,s',h=>by
  cases f<;>simp only[AU]at h<;>try cases h
  split at h
  ·split at h
   ·simp only[BG]at h;obtain⟨u,hu,rfl⟩:=h;exact(FB hu).2.1
   ·cases h
  ·cases h
 | .nil,f,s,s',h=>by
  cases f<;>simp only[AU]at h<;>try cases h
  exact(FB h).2.1
 | .ptr t,f,s,s',h=>by
  cases f<;>simp only[AU]at h<;>try cases h
  simp only[BV]at h;obtain⟨u,hu,h⟩:=h;exact(Pg t _ u s' h).trans (FB hu).2.1
 | .list l,f,s,s',h=>by
  cases f<;>simp only[AU]at h<;>try cases h
  simp only[BV]at h;obtain⟨u,hu,h⟩:=h;split at h
  ·exact(YG l _ u s' h).trans (FB hu).2.1
  ·cases h
 | .agg sn l,f,s,s',h=>by
  cases f<;>simp only[AU]at h<;>try cases h
  split at h
  ·split at h
   ·split at h
    ·cases h
    ·simp only[BG]at h;obtain⟨u,hu,rfl⟩:=h;have:=SZ l _ {s with nest:=s.nest+1} u hu;exact this
   ·exact SZ l _ _ s' h
  ·cases h
theorem YG:∀(l:List T) (e:Ty) (s s':RS),D7 l e s=some s'->s'.tab=s.tab
 |[],e,s,s',h=>by simp only[D7,Option.some.injEq]at h;rw[h]
 |t::l,e,s,s',h=>by
  simp only[D7,BV]at h;obtain⟨u,hu,h⟩:=h;exact(YG l e u s' h).trans (Pg t e s u hu)
theorem SZ:∀(l:List T) (fs:List Ty) (s s':RS),Bn l fs s=some s'->s'.tab=s.tab
 |[],[],s,s',h=>by simp only[Bn,Option.some.injEq]at h;rw[h]
 |[],f::fs,s,s',h=>by simp only[Bn]at h;cases h
 |t::l,[],s,s',h=>by simp only[Bn]at h;cases h
 |t::l,f::fs,s,s',h=>by
  simp only[Bn,BV]at h;obtain⟨u,hu,h⟩:=h;exact(SZ l fs u s' h).trans (Pg t f s u hu)
end
theorem Ac7{tab':List ByteArray}{r':List UInt8}(h:num tab.length++Bu tab++r=num tab'.length++Bu tab'++r'):tab=tab'/\r=r':=by
 rw[Dg,Dg]at h;obtain⟨h1,h2⟩:=Qy _ _ _ _ h;obtain⟨l2,h3,h4⟩:=Tu _ _ _ _ h2 (by omega);have:l2=[]:=by
  have:=congrArg List.length h3;simp at this;exact E2 (by omega)
 subst this;exact⟨by simpa using h3.symm,by simpa[Bu]using h4⟩
theorem Yr(h:Bts w v bs):
 Calls prog 15 [v].toArray w (End (Rg bs w) (λ_ _=>False)):=by
 have hml:bs.length<=9223372036854775807:=by have:=h.1;simpa[maxLen]using this
 obtain⟨g,cap,rfl,_⟩:=h.val;refine IU 68 func15 V V V ?_;refine Ac (Ab (Ct (Xf _) V ?_));have a1:Own (λ_=>False) (w.alloc (.cells zsheet.toArray 36)) w.heap.size zsheet 36:=⟨Cf,λh=>h⟩;have f1:Fr (λ_=>False) w (λ_=>False) (w.alloc (.cells zsheet.toArray 36)):=Fr.alloc _ _ _;have s1:(w.alloc (.cells zsheet.toArray 36)).heap.size=w.heap.size+1:=by simp
 show WL _ _ _ _ _ _ _ (w.alloc (.cells zsheet.toArray 36));generalize w.alloc (.cells zsheet.toArray 36)=w1 at a1 f1 s1⊢;refine Ct (zeroValue37 _) V ?_;have a2:Own (λ_=>False) (w1.alloc (.cells [.int .i64 0].toArray 37)) w1.heap.size [.int .i64 0] 37:=⟨Cf,λh=>h⟩;have f2:Fr (λ_=>False) w1 (λ_=>False) (w1.alloc (.cells [.int .i64 0].toArray 37)):=Fr.alloc _ _ _;have s2:(w1.alloc (.cells [.int .i64 0].toArray 37)).heap.size=w1.heap.size+1:=by simp
 show WL _ _ _ _ _ _ _ (w1.alloc (.cells [.int .i64 0].toArray 37));generalize w1.alloc (.cells [.int .i64 0].toArray 37)=w2 at a2 f2 s2⊢;have b1:=f2.keep a1;have f02:=f1.trans f2;have hbc:w.heap.size≠w1.heap.size:=by omega
 have hcn:w.heap.size<=w1.heap.size:=by omega
 generalize hB:w.heap.size=B at*;generalize hC:w1.heap.size=C at*;have h2:Bts w2 (.slice g bs.length cap) bs:=h.keep0 f02;refine Aj [(0,.slice g bs.length cap),(2,ptr B),(3,ptr C)] ⟨V,V,V,trivial⟩ ?_
 --an early return
 have early:∀{a:Act}{m:Env}{e:Int}{w3:World},((∀t,¬GC bs t)/\Hq bs=e)->Fr (λ_=>False) w2 (λ_=>False) w3->Loc 68 [] m a->m.get 2=some (ptr B)->m.get 3=some (ptr C)->
  bodyPostD prog Tryz.f15 (End (Rg bs w) (λ_ _=>False)) .ret a (G4 w3 B C zsheet e):=by
  intro a m e w3 he f3 ha h2 h3;have k1:=f3.keep b1;have k2:=f3.keep a2;obtain⟨q1,q2⟩:=Yj (x:=zsheet) (e:=e) k1.blk k2.blk hbc;refine Ash V ha h2 h3 q1 V q2 ⟨zsheet,e,rfl,?_,.inr ⟨he.1,he.2.symm,rfl⟩⟩;have:Fr (λb=>B<=b) w2 (λb=>B<=b) (G4 w3 B C zsheet e):=(f3.drop (λ_ h=>h.elim)).trans (Rj (by omega) (by omega));have:=Ll (v:=.slice none 0 0) f02 this (λb hb=>by omega) (λb hb=>(Iv b hb).elim);rwa[Ku]at this
 --what is stored at an early return
 have stores:∀{w3:World}{e:Int},Fr (λ_=>False) w2 (λ_=>False) w3->(loadVar 36 ⟨B,0,none⟩).run prog w3= .ok (.agg zsheet.toArray) w3/\(storeVar 36 ⟨B,0,none⟩ (.agg zsheet.toArray)).run prog w3= .ok () (w3.setRow B zsheet.toArray)/\
  (storeVar 37 ⟨C,0,none⟩ (.int .i64 e)).run prog (w3.setRow B zsheet.toArray)= .ok () (G4 w3 B C zsheet e):=by
  intro w3 e f3;have k1:=(f3.keep b1).blk;have k2:=(f3.keep a2).blk;exact⟨AS Ev V k1.all,LG k1 V V Adw,W_ ((setRow_other _ _ _ _ (λe=>hbc e.symm)).trans k2)⟩
 refine CM (ι:=World) (λ_=>[(0,.slice g bs.length cap),(2,ptr B),(3,ptr C)]) (λi w'=>i=w'/\Fr (λ_=>False) w2 (λ_=>False) w'/\¬16777216<bs.length/\¬(bs.length<9\/bs.take 4≠magicB)/\¬C0 (bs.take (bs.length-4))≠bs) ?_ ?_
 ·refine Ac (Ab (Aa V V (AI V (AM underlying22) V (Al V V (v:=.int .i64 ((bs.length:Int)-4)) ?_ V (Ah V V (Ag ?_))))))
  ·show Result.ok (Value.int .i64 (IntKind.i64.wrap ((bs.length:Int)-4))) _=_;rw[CS (by unfold AP;omega)]
  refine AF (Ac (Ab (Aa V V (AI V (AM underlying22) V (Al V V (D2 (c:=decide (16777216<bs.length)) (BM.2 (by omega))) V (Ah V V (Ag ?_)))))));refine AN V (λht=>?_) (λhf=>?_)
  ·obtain⟨l1,l2,l3⟩:=stores (e:=2) (Fr.refl _ w2);exact Ac (Ab (Ae V l1 V (An V V l2 (An V V l3 (Ag (AJ λa ha=>GL (C9 (early (Ar7 (B7 ht)) (Fr.refl _ w2) ha V V))))))))
  have hlong:¬16777216<bs.length:=B2 hf;have final:∀(hf2:¬(bs.length<9\/bs.take 4≠magicB)),True:=λ_=>trivial;clear final;by_cases h9:bs.length<9
  ·refine Ac (Ab (Aa V V (AI V (AM underlying22) V (Al V V (CR (c:=true) (decide_eq_true (by omega)).symm) V (Aa V V ?_)))));refine Cz (j:=3) V V V V V (Cz (j:=3) V V V V V (Cz (j:=3) V V V V V (Cz (j:=3) V V V V V (BW V V V (Ah V V (Ag (Ga V ?_)))))));obtain⟨l1,l2,l3⟩:=stores (e:=5) (Fr.refl _ w2);exact Ac (Ab (Ae V l1 V (An V V l2 (An V V l3 (Ag (AJ λa ha=>GL (C9 (early (Aa_ hlong (.inl h9)) (Fr.refl _ w2) ha V V))))))))
  obtain⟨v4,hsl4,hb4,_⟩:=IR h2 (lo:=none) (hi:=some (.int .i64 4)) (l:=0) (k:=4) (.inl ⟨rfl,rfl⟩) (.inr rfl) (AW _) (by omega);rw[FI]at hb4;have hms:decide ((⟨(bs.take 4).toArray⟩:ByteArray)=⟨#[67,72,83,76]⟩)=decide (bs.take 4=magicB):=by
   apply BM.2;constructor
   ·intro e;have e1:(bs.take 4).toArray=#[67,72,83,76]:=congrArg ByteArray.data e;have e2:=congrArg Array.toList e1;simpa[magicB]using e2
   ·intro e;rw[e];rfl
  refine Ac (Ab (Aa V V (AI V (AM underlying22) V (Al V V (CR (c:=false) (decide_eq_false (by omega)).symm) V (Aa V V ?_)))));refine A9 (j:=3) V V V (Aa V V (A9 (j:=3) V V V (Ia (vl:=none) (vh:=some (.int .i64 4)) V V V (hsl4 _) V (A9 (j:=3) V V V (BH V (KW hb4) V ?_)))));refine A9 (j:=3) V V V (Fg V V Q8 V (BW V V V (Ah V V (Ag ?_))));rw[hms];obtain⟨fb,hfb⟩:∃fb,fb= !decide (bs.take 4=magicB):=⟨_,rfl⟩;rw[<-hfb];refine AN V (λht=>?_) (λhf=>?_)
  ·obtain⟨l1,l2,l3⟩:=stores (e:=5) (Fr.refl _ w2);have hne:bs.take 4≠magicB:=by rw[ht]at hfb;intro e;simp[e]at hfb
   exact Ac (Ab (Ae V l1 V (An V V l2 (An V V l3 (Ag (AJ λa ha=>GL (C9 (early (Aa_ hlong (.inr hne)) (Fr.refl _ w2) ha V V))))))))
  have hmag:bs.take 4=magicB:=by rw[hf]at hfb;simpa using hfb.symm
  have hform:¬(bs.length<9\/bs.take 4≠magicB):=λh=>h.elim h9 (λh=>h hmag);have hc4:((bs.length:Int)-4)=((bs.length-4:Nat):Int):=by omega
  obtain⟨v6,hsl6,hb6,_⟩:=IR h2 (lo:=none) (hi:=some (.int .i64 ((bs.length:Int)-4))) (l:=0) (k:=bs.length-4) (.inl ⟨rfl,rfl⟩) (.inr (by rw[hc4])) (AW _) (by omega);rw[FI]at hb6;have hl6:(bs.take (bs.length-4)).length<=2 ^ 45:=by simp;omega
  refine Ac (Ab (Aa V V (Aa V V (Ia (vl:=none) (vh:=some (.int .i64 ((bs.length:Int)-4))) V V V (hsl6 _) V (Af call29 V V (c29 hb6 hl6) ?_ Am)))));rintro v7 w4 ⟨r7,f7⟩;refine Af call28 V V (Y4 r7 hl6) ?_ Am;rintro v8 w5 ⟨r8,f8⟩;have f25:Fr (λ_=>False) w2 (λ_=>False) w5:=(f7.trans f8).none;have h5:Bts w5 (.slice g bs.length cap) bs:=h2.keep0 f25;refine Aa V V (Af call27 V V (c27 (EA r8) h5) ?_ Am);rintro _ w6 ⟨rfl,f6⟩;have f26:=f25.trans f6;refine HZ V V (Ah V V (Ag ?_));obtain⟨sb,hsb⟩:∃sb,sb= !decide (C0 (bs.take (bs.length-4))=bs):=⟨_,rfl⟩;rw[<-hsb];refine AN V (λht=>?_) (λhf=>AG λa ha=>BK (Ak ⟨w6,ha.weak ⟨V,V,V,trivial⟩,rfl,f26,hlong,hform,?_⟩))
  ·obtain⟨l1,l2,l3⟩:=stores (e:=440) f26;have hne:C0 (bs.take (bs.length-4))≠bs:=by rw[ht]at hsb;intro e;simp[e]at hsb
   exact Ac (Ab (Ae V l1 V (An V V l2 (An V V l3 (Ag (AJ λa ha=>GL (C9 (early (Ar8 hlong hform hne) f26 ha V V))))))))
  ·intro hne;apply hne;rw[hf]at hsb;simpa using hsb.symm
 ·rintro w3 _ ⟨rfl,f3,hlong,hform,hsum⟩;have hns:¬bs.length<9:=λh=>hform (.inl h);have k1:=f3.keep b1;have k2:=f3.keep a2;have h3:Bts w3 (.slice g bs.length cap) bs:=h2.keep0 f3;have hc4:((bs.length:Int)-4)=((bs.length-4:Nat):Int):=by omega
  refine Ac (Ab (Ba V V V (IP V (Ag ?_))));show W _ _ _ _ [Pm B C] _ _;obtain⟨v4,hsl4,hb4,_⟩:=IR h3 (lo:=some (.int .i64 4)) (hi:=some (.int .i64 ((bs.length:Int)-4))) (l:=4) (k:=bs.length-4) (.inr rfl) (.inr (by rw[hc4])) (by omega) (by omega);obtain⟨g4,cap4,hv4,_⟩:=hb4.val;refine Ac (Ab (Aa V V (Aa V V (AI V (AM underlying22) V (Al V V (v:=.int .i64 ((bs.length:Int)-4)) ?_ V (Ia (vl:=some (.int .i64 4)) (vh:=some (.int .i64 ((bs.length:Int)-4))) V V V (hsl4 _) V ?_))))))
  ·show Result.ok (Value.int .i64 (IntKind.i64.wrap ((bs.length:Int)-4))) _=_;rw[CS (by unfold AP;omega)]
  have hbody:(bs.take (bs.length-4)).drop 4=body bs:=rfl;rw[hbody]at hb4 hv4;subst hv4;refine EB V Atm V (Cy V V ?_);have a4:Blk (w3.alloc (.cells [.slice g4 (body bs).length cap4,.slice none 0 0,.int .i64 0,.int .i64 0].toArray 92)) w3.heap.size [.slice g4 (body bs).length cap4,.slice none 0 0,.int .i64 0,.int .i64 0] 92:=Cf;have f4:Fr (λ_=>False) w3 (λ_=>False) (w3.alloc (.cells [.slice g4 (body bs).length cap4,.slice none 0 0,.int .i64 0,.int .i64 0].toArray 92)):=Fr.alloc _ _ _;have s4:(w3.alloc (.cells [.slice g4 (body bs).length cap4,.slice none 0 0,.int .i64 0,.int .i64 0].toArray 92)).heap.size=w3.heap.size+1:=by simp
  show WL _ _ _ _ _ _ _ (w3.alloc (.cells [.slice g4 (body bs).length cap4,.slice none 0 0,.int .i64 0,.int .i64 0].toArray 92));generalize w3.alloc (.cells [.slice g4 (body bs).length cap4,.slice none 0 0,.int .i64 0,.int .i64 0].toArray 92)=w4 at a4 f4 s4⊢;have hb4':=hb4.keep0 f4;have hown:∀k,Aw (.slice g4 (body bs).length cap4) k->k<w3.heap.size:=by
   intro k hk;rcases hb4.2 with⟨e,_⟩|⟨b,o,c,e,hb,_⟩
   ·rw[e]at hk;exact(Iv k hk).elim
   ·rw[e]at hk;have:b=k:=by simpa[Aw,Value.ownBlock]using hk
    omega
  have hB3:B<w3.heap.size:=k1.blk.lt;have hC3:C<w3.heap.size:=k2.blk.lt;generalize hp:w3.heap.size=p at*;have hbl:(body bs).length<=2 ^ 25:=by unfold body;simp;omega
  --the two results,in whatever follows
  have res:∀{w':World},Fr (only p) w4 (only p) w'->Blk w' B zsheet 36/\Blk w' C [.int .i64 0] 37:=λf=>
   ⟨(f.blk B (by omega) (λe=>by have:B=p:=e;omega)).trans ((f4.blk B (by omega) (λh=>h)).trans k1.blk),(f.blk C (by omega) (λe=>by have:C=p:=e;omega)).trans ((f4.blk C (by omega) (λh=>h)).trans k2.blk)⟩
  --the whole's frame
  have whole:∀{w':World},Fr (λb=>B<=b) w4 (λb=>B<=b) w'->Fr (λ_=>False) w (λ_=>False) w':=by
   intro w' f;have hq:Fr (λ_=>False) w (λ_=>False) w4:=(f02.trans f3).trans f4;have:=Ll (v:=.slice none 0 0) hq f (λb hb=>by omega) (λb hb=>(Iv b hb).elim);rwa[Ku]at this
  have bad:∀{a:Act}{m:Env}{w':World}{x:List Value},(∀t,¬Mp (body bs) t)->Fr (λb=>B<=b) w4 (λb=>B<=b) w'->Blk w' B x 36->x.length=10->Blk w' C [.int .i64 0] 37->Loc 68 [Pm B C] m a->m.get 2=some (ptr B)->m.get 3=some (ptr C)->
   bodyPostD prog Tryz.f15 (End (Rg bs w) (λ_ _=>False)) (.panic Eg) a w':=by
   intro a m w' x hno f hx hxl hy ha h2 h3;refine Asj V ha h2 h3 hx hxl hy hbc ⟨zsheet,5,rfl,whole (f.trans (Rj (Ay B) (by omega))),.inr ⟨(Aba hlong hform hsum hno).1,(Aba hlong hform hsum hno).2.symm,rfl⟩⟩
  refine Ah V V (Aj [(2,ptr B),(3,ptr C),(5,ptr p)] ⟨V,V,V,trivial⟩ ?_);refine Ac (Ab (Aa V V (Af call31 V V (c31 a4 hb4' (λk hk=>by have:=hown k hk;omega) hbl) ?_ ?_)));rotate_left
  ·rintro ch w5 ⟨rfl,hno,f5⟩ a ha;obtain⟨q1,q2⟩:=res f5;refine Ap (bad ?_ (f5.drop (λb hb=>by have:b=p:=hb;omega)) q1 V q2 ha V V);rintro t ⟨tab,r,s',e,hnd,_⟩;exact hno tab r hnd e
  rintro _ w5 ⟨rfl,tab,r,hbd,hst5,f5⟩;obtain⟨q1,q2⟩:=res f5;refine Ag ?_;have uniq:∀t,Mp (body bs) t->∃s',AU t (.st .sheet) ⟨r,tab,0,0⟩=some s'/\s'.b=[]/\s'.used=tab.length:=by
   rintro t ⟨tab',r',s',e,hnd,hc,h1,h2⟩;obtain⟨rfl,rfl⟩:=Ac7 (hbd.symm.trans e);exact⟨s',hc,h1,h2⟩
  refine Ac (Ab (Aa V V (Af call32 V V (Asx 0 (by decide) _ _ hst5 V) ?_ ?_)));rotate_left
  ·rintro ch w6 ⟨rfl,hbad,s',_,f6,_⟩ a ha;obtain⟨r1,r2⟩:=res (f5.trans f6);refine Ap (bad ?_ ((f5.trans f6).drop (λb hb=>by have:b=p:=hb;omega)) r1 V r2 ha V V);intro t ht;obtain⟨s',hc,_⟩:=uniq t ht;rw[hbad t]at hc;cases hc
  rintro _ w6 ⟨t,s',cs,hc,rfl,hrep,hst6,f6,hn6⟩;obtain⟨r1,r2⟩:=res (f5.trans f6);obtain⟨hcl,hc1⟩:=Rep.one _ _ _ hrep;have hcl':cs.length=10:=hcl;have F6:Fr (λb=>B<=b) w4 (λb=>B<=b) w6:=(f5.trans f6).drop (λb hb=>by have:b=p:=hb;omega);have hsz5:=f5.size;have hsz6:=f6.size;refine An V V (LG r1 V hcl' hc1) (Aj [(2,ptr B),(3,ptr C),(5,ptr p)] ⟨V,V,V,trivial⟩ ?_);have t1:Blk (w6.setRow B cs.toArray) B cs 36:=r1.setRow _;have t2:Blk (w6.setRow B cs.toArray) C [.int .i64 0] 37:=(setRow_other _ _ _ _ (λe=>hbc e.symm)).trans r2;have F7:Fr (λb=>B<=b) w4 (λb=>B<=b) (w6.setRow B cs.toArray):=F6.trans (Fr.setRow _ (Ay B));have oth:∀b,b≠B->(w6.setRow B cs.toArray).heap[b]? =w6.heap[b]? :=λb hb=>setRow_other _ _ _ _ hb;have hsz7:(w6.setRow B cs.toArray).heap.size=w6.heap.size:=by simp
  obtain⟨vb,vt,e0,e1,e2,e3,m6⟩:=hst6.cells;obtain⟨gb,cb,rfl,_⟩:=m6.bts.val;obtain⟨gt,ct,rfl,_⟩:=G2 m6.row;have hsb6:=hst6.sb;have hst6':=hst6.st;have hsu6:=hst6.su;have htab:s'.tab=tab:=Pg t _ _ s' hc;generalize w6.setRow B cs.toArray=w7 at t1 t2 F7 oth hsz7⊢;have pB:p≠B:=by omega
  have LD:∀(t:TypeId) (o:Nat) (v:Value),AC prog t false 1->w6.cell? ⟨p,o,none⟩=some v->∀w',(∃k,w'=w7.drewN k)->(loadVar t ⟨p,o,none⟩).run prog w'= .ok v w':=by
   rintro t o v ht hcell w' ⟨k,rfl⟩;refine Ai ht ?_;rw[World.cell?_of_block (w:=w6) (show(w7.drewN k).heap[p]? =w6.heap[p]? from oth p pB)];exact hcell
  have key:(0<s'.b.length\/s'.used<s'.tab.length)->∀t,¬Mp (body bs) t:=by
   intro hor t' ht';obtain⟨s'',hc',h1,h2⟩:=uniq t' ht';obtain⟨_,rfl⟩:=JR _ _ _ _ _ _ hc hc';rcases hor with h|h
   ·rw[h1]at h;simp at h
   ·rw[htab]at h;omega
  obtain⟨x1,hx1⟩:∃x,x=decide (0<s'.b.length):=⟨_,rfl⟩;obtain⟨x2,hx2⟩:∃x,x=decide (s'.used<s'.tab.length):=⟨_,rfl⟩;refine CM (ι:=Nat) (λ_=>[(2,ptr B),(3,ptr C)]) (λk w'=>w7.drewN k=w'/\¬(0<s'.b.length\/s'.used<s'.tab.length)) ?_ ?_
  ·refine CM (ι:=Nat) (λ_=>[(2,ptr B),(3,ptr C),(64,.bool (x1||x2))]) (λk w'=>w7.drewN k=w') (Ms (λw'=>∃k,w'=w7.drewN k) FS (by kernel_rfl) ⟨1,rfl⟩ ?_) ?_;rotate_left
   ·rintro k _ rfl;obtain⟨x,hx⟩:∃x,x=(x1||x2):=⟨_,rfl⟩;rw[<-hx];refine AN V (λht=>Ab (HY V V (λa ha=>?_) V V)) (λhf=>AG λa ha=>?_)
    ·refine Ap (bad (key ?_) (F7.trans (Fr.drewn k)) t1 hcl' t2 ha V V);rw[ht]at hx;rcases(HM _ _▸hx.symm:_\/_)with h|h
     ·rw[h]at hx1;exact .inl (B7 hx1.symm)
     ·rw[h]at hx2;exact .inr (B7 hx2.symm)
    ·refine Ak ⟨k,ha.weak ⟨V,V,trivial⟩,rfl,?_⟩;rw[hf]at hx;have:=(Re).1 hx.symm;rw[this.1]at hx1;rw[this.2]at hx2;exactλh=>h.elim (B2 hx1.symm) (B2 hx2.symm)
   refine Dd V V (Fx V V (DF V (λ_=>I4 _ _ _) V (Di V (LD 22 0 _ C_ e0) V (OA V (λ_=>AM underlying22) V ?_))));refine FX V V (v:=.bool x1) (λ_=>D2 (hx1.trans (BM.2 (by omega)))) V (Dd V V ?_);cases x1 with
   |true=>
    iterate 10 refine OC (j:=6) V V V V V ?_
    exact GG V V V (KL λa ha w' hw'=>Ak (hw'.elim λk hk=>⟨k,ha.weak ⟨V,V,V,trivial⟩,hk.symm⟩))
   |false=>
    refine AZ (j:=6) V V V (Dd V V (AZ (j:=6) V V V (Fx V V (AZ (j:=6) V V V (DF V (λ_=>QP _ _ _) V (AZ (j:=6) V V V (Di V (LD 3 2 _ Bo e2) V ?_)))))));refine AZ (j:=6) V V V (Dd V V (AZ (j:=6) V V V (Fx V V (AZ (j:=6) V V V (DF V (λ_=>Oa _ _ _) V (AZ (j:=6) V V V (Di V (LD 44 1 _ HI e1) V ?_)))))));refine AZ (j:=6) V V V (OA V (λ_=>AM underlying44) V (AZ (j:=6) V V V (FX V V (v:=.bool x2) (λ_=>CR (hx2.trans (BM.2 (by omega)))) V ?_)));exact GG V V V (KL λa ha w' hw'=>Ak (hw'.elim λk hk=>⟨k,ha.weak ⟨rfl,rfl,by simp[Env.get],trivial⟩,hk.symm⟩))
  ·rintro k _ ⟨rfl,hno⟩;have u1:Blk (w7.drewN k) B cs 36:=t1;have u2:Blk (w7.drewN k) C [.int .i64 0] 37:=t2;have u2':Blk ((w7.drewN k).setRow B cs.toArray) C [.int .i64 0] 37:=(setRow_other _ _ _ _ (λe=>hbc e.symm)).trans u2;obtain⟨z1,z2⟩:=Yj (x:=cs) (e:=0) u1 u2 hbc;refine Ac (Ab (Ae V (AS Ev hcl' u1.all) V (An V V (LG u1 hcl' hcl' hc1) (An V V (W_ u2') (Ag (AJ λa ha=>Asi V ha V V z1 hcl' z2 ⟨cs,0,rfl,whole (F7.trans ((Fr.drewn k).trans (Rj (Ay B) (by omega)))),.inl ⟨t,?_,rfl,?_⟩⟩))))))
   ·refine⟨by omega,by omega,?_,?_,tab,r,s',hbd,hst5.nodup,hc,?_,?_⟩
    ·by_cases hm:bs.take 4=magicB
     ·exact hm
     ·exact absurd (.inr hm) hform
    ·by_cases hm:C0 (bs.take (bs.length-4))=bs
     ·exact hm
     ·exact absurd hm hsum
    ·exact E2 (by omega)
    ·rw[htab]at hno hsu6;omega
   ·refine Rep.agree (λb hb hl=>⟨by omega,by show b<(G4 _ _ _ _ _).heap.size;simp[G4];omega,?_⟩) _ _ _ hrep;have hbB:b≠B:=by omega
    have hbC:b≠C:=by omega
    exact(setRow_other _ _ _ _ hbC).trans ((setRow_other _ _ _ _ hbB).trans (oth b hbB))
structure Cor(tab:List ByteArray)(rs:RS)(ws:WS)(long:Nat):Prop where
 wt:ws.tab=tab.take rs.used
 rt:rs.tab=tab
 used:rs.used<=tab.length
 nest:ws.nest=rs.nest
 long:ws.b.length+rs.b.length<=long
mutual
def Kd:T->Ty->Prop
 | .int n,.int=>AP n
 | .bool _,.bool=>True
 | .str _,.str=>True
 | .list l,.list e=>Mb l e
 | .nil,.ptr _=>True
 | .ptr t,.ptr e=>Kd t e
 | .agg sn l,.st sn'=>sn=sn'/\KdF l sn'.fields
 |_,_=>False
def Mb:List T->Ty->Prop
 |[],_=>True
 |t::l,e=>Kd t e/\Mb l e
def KdF:List T->List Ty->Prop
 |[],[]=>True
 |t::l,f::fs=>Kd t f/\KdF l fs
 |_,_=>False
end
theorem Ac0(ws:WS)(x:ByteArray):ws.tab<+:(ws.str x).tab/\(ws.str x).nest=ws.nest:=by
 unfold WS.str;split
 ·exact⟨Mj _,rfl⟩
 ·exact⟨List.prefix_append _ _,rfl⟩
mutual
theorem Pz{most long:Nat}:∀(t:T) (ws ws':WS),enc most long t ws=some ws'->ws.tab<+:ws'.tab/\ws'.nest=ws.nest
 | .int n,ws,ws',h=>by simp only[enc,Option.some.injEq]at h;subst h;exact⟨Mj _,rfl⟩
 | .bool n,ws,ws',h=>by simp only[enc,Option.some.injEq]at h;subst h;exact⟨Mj _,rfl⟩
 | .nil,ws,ws',h=>by simp only[enc,Option.some.injEq]at h;subst h;exact⟨Mj _,rfl⟩
 | .str x,ws,ws',h=>by simp only[enc,Option.some.injEq]at h;subst h;exact Ac0 ws x
 | .ptr t,ws,ws',h=>by simp only[enc]at h;have:=Pz t (ws.num 1) _ h;exact this
 | .list l,ws,ws',h=>by simp only[enc]at h;have:=JU l (ws.num l.length) _ h;exact this
 | .agg sn l,ws,ws',h=>by
  simp only[enc]at h;split at h
  ·split at h
   ·cases h
   ·simp only[BG]at h;obtain⟨u,hu,rfl⟩:=h;exact⟨(JU l _ u hu).1,rfl⟩
  ·exact JU l _ _ h
theorem JU{most long:Nat}:∀(l:List T) (ws ws':WS),Bk most long l ws=some ws'->ws.tab<+:ws'.tab/\ws'.nest=ws.nest
 |[],ws,ws',h=>by simp only[Bk,Option.some.injEq]at h;subst h;exact⟨Mj _,rfl⟩
 |t::l,ws,ws',h=>by
  simp only[Bk,BV]at h;obtain⟨u,hu,h⟩:=h;have a:=Pz t _ _ hu;have b:=JU l _ _ h;exact⟨a.1.trans b.1,b.2.trans a.2⟩
end
theorem Anv(sn:SN):1<=sn.fields.length:=by cases sn<;>decide
theorem KdF.len:∀{l:List T}{fs:List Ty},KdF l fs->l.length=fs.length
 |[],[],_=>rfl
 |[],_::_,h=>by simp only[KdF]at h
 |_::_,[],h=>by simp only[KdF]at h
 |t::l,f::fs,h=>by simp only[KdF]at h;simp[KdF.len h.2]
theorem Abo{a b:List ByteArray}(h:a<+:b){i:Nat}(hi:a[i]? =some x):b[i]? =some x:=by
 obtain⟨c,rfl⟩:=h;rw[GD (C3.1 hi).1];exact hi
variable{n:Nat}
theorem YQ{c:List UInt8}{u k:Nat}:(RS.mk (num n++c++r) tab u k).eat n=some ⟨c++r,tab,u,k⟩:=by
 rw[RS.eat_iff];simp
theorem MI{u k:Nat}:(RS.mk (num n++r) tab u k).eat n=some ⟨r,tab,u,k⟩:=by
 rw[RS.eat_iff];simp
mutual
theorem Pf{tab:List ByteArray}{long:Nat}(hn:tab.Nodup):∀(t:T) (f:Ty) (ws ws':WS),Kd t f->enc 1000 long t ws=some ws'->ws'.tab<+:tab->∃c,ws'.b=ws.b++c/\1<=c.length/\∀r,AU t f ⟨c++r,tab,ws.tab.length,ws.nest⟩=some ⟨r,tab,ws'.tab.length,ws.nest⟩
 | .int n,f,ws,ws',hk,h,hp=>by
  cases f<;>simp only[Kd]at hk;simp only[enc,Option.some.injEq]at h;subst h;exact⟨num (C2 n),rfl,HC _,λr=>by simp only[AU];rw[if_pos ((Aaa n).1 hk)];exact MI⟩
 | .bool b,f,ws,ws',hk,h,hp=>by
  cases f<;>simp only[Kd]at hk;simp only[enc,Option.some.injEq]at h;subst h;exact⟨num b.toNat,rfl,HC _,λr=>by simp only[AU];exact MI⟩
 | .nil,f,ws,ws',hk,h,hp=>by
  cases f<;>simp only[Kd]at hk;simp only[enc,Option.some.injEq]at h;subst h;exact⟨num 0,rfl,HC _,λr=>by simp only[AU];exact MI⟩
 | .str x,f,ws,ws',hk,h,hp=>by
  cases f<;>simp only[Kd]at hk;simp only[enc,Option.some.injEq]at h;subst h;cases hx:ws.tab.findIdx? (λy=>decide (y=x))with
  |some k=>
   have hs:ws.str x=ws.num k:=by unfold WS.str;rw[hx]
   rw[hs]at hp⊢;obtain⟨h1,h2⟩:=Ka hx;have hf:=QG hn (Abo hp h2);refine⟨num k,rfl,HC _,λr=>?_⟩;simp only[AU,hf];rw[if_pos (by omega),MI];simp only[KI,WS.num];rw[Nat.max_eq_left (by omega)]
  |none=>
   have hs:ws.str x={ws with tab:=ws.tab++[x]}.num ws.tab.length:=by unfold WS.str;rw[hx]
   rw[hs]at hp⊢;have hf:=QG hn (Abo hp (i:=ws.tab.length) (x:=x) (by simp[WS.num]));refine⟨num ws.tab.length,rfl,HC _,λr=>?_⟩;simp only[AU,hf];rw[if_pos (Ay _),MI];simp only[KI,WS.num,Bh,Cg,DS];rw[Nat.max_eq_right (by omega)]
 | .ptr t,f,ws,ws',hk,h,hp=>by
  cases f<;>simp only[Kd]at hk;simp only[enc]at h;obtain⟨c,h1,h2,h3⟩:=Pf hn t _ _ ws' hk h hp;refine⟨num 1++c,by rw[h1];simp only[WS.num,Dg],by rw[Bh];omega,λr=>?_⟩;simp only[AU,YQ,Cw];exact h3 r
 | .list l,f,ws,ws',hk,h,hp=>by
  cases f<;>simp only[Kd]at hk;simp only[enc]at h;obtain⟨c,h1,h2,h3⟩:=YE hn l _ _ ws' hk h hp;have:=HC l.length;refine⟨num l.length++c,by rw[h1];simp only[WS.num,Dg],by rw[Bh];omega,λr=>?_⟩;simp only[AU,YQ,Cw];rw[if_pos (by rw[Bh];omega)];exact h3 r
 | .agg sn l,f,ws,ws',hk,h,hp=>by
  cases f<;>simp only[Kd]at hk;obtain⟨rfl,hk⟩:=hk;simp only[enc]at h;have hlen:=hk.len;have hpos:=Anv sn;cases hd:sn.deep with
  |false=>
   rw[hd]at h;obtain⟨c,h1,h2,h3⟩:=SX hn l _ ws ws' hk h hp;exact⟨c,h1,by omega,λr=>by simp only[AU,if_true,hd];exact h3 r⟩
  |true=>
   rw[hd]at h;simp only at h;split at h
   ·cases h
   ·rename_i hno;simp only[BG]at h;obtain⟨u,hu,rfl⟩:=h;obtain⟨c,h1,h2,h3⟩:=SX hn l _ _ u hk hu hp;refine⟨c,h1,by omega,λr=>?_⟩;simp only[AU,if_true,hd];rw[if_neg (by omega),h3 r];rfl
theorem YE{tab:List ByteArray}{long:Nat}(hn:tab.Nodup):∀(l:List T) (e:Ty) (ws ws':WS),Mb l e->Bk 1000 long l ws=some ws'->ws'.tab<+:tab->∃c,ws'.b=ws.b++c/\l.length<=c.length/\∀r,D7 l e ⟨c++r,tab,ws.tab.length,ws.nest⟩=some ⟨r,tab,ws'.tab.length,ws.nest⟩
 |[],e,ws,ws',hk,h,hp=>by
  simp only[Bk,Option.some.injEq]at h;subst h;exact⟨[],by simp,Ay _,λr=>by simp only[D7,Dh]⟩
 |t::l,e,ws,ws',hk,h,hp=>by
  simp only[Mb]at hk;simp only[Bk,BV]at h;obtain⟨u,hu,h⟩:=h;have hm:=JU l _ _ h;have hm1:=Pz t _ _ hu;obtain⟨c,h1,h2,h3⟩:=Pf hn t e ws u hk.1 hu (hm.1.trans hp);obtain⟨d,h4,h5,h6⟩:=YE hn l e u ws' hk.2 h hp;refine⟨c++d,by rw[h4,h1,Dg],by rw[Bh,Cg];omega,λr=>?_⟩;simp only[D7,Dg,h3,Cw];rw[<-hm1.2];exact h6 r
theorem SX{tab:List ByteArray}{long:Nat}(hn:tab.Nodup):∀(l:List T) (fs:List Ty) (ws ws':WS),KdF l fs->Bk 1000 long l ws=some ws'->ws'.tab<+:tab->∃c,ws'.b=ws.b++c/\l.length<=c.length/\∀r,Bn l fs ⟨c++r,tab,ws.tab.length,ws.nest⟩=some ⟨r,tab,ws'.tab.length,ws.nest⟩
 |[],[],ws,ws',hk,h,hp=>by
  simp only[Bk,Option.some.injEq]at h;subst h;exact⟨[],by simp,Ay _,λr=>by simp only[Bn,Dh]⟩
 |[],f::fs,ws,ws',hk,h,hp=>by simp only[KdF]at hk
 |t::l,[],ws,ws',hk,h,hp=>by simp only[KdF]at hk
 |t::l,f::fs,ws,ws',hk,h,hp=>by
  simp only[KdF]at hk;simp only[Bk,BV]at h;obtain⟨u,hu,h⟩:=h;have hm:=JU l _ _ h;have hm1:=Pz t _ _ hu;obtain⟨c,h1,h2,h3⟩:=Pf hn t f ws u hk.1 hu (hm.1.trans hp);obtain⟨d,h4,h5,h6⟩:=SX hn l fs u ws' hk.2 h hp;refine⟨c++d,by rw[h4,h1,Dg],by rw[Bh,Cg];omega,λr=>?_⟩;simp only[Bn,Dg,h3,Cw];rw[<-hm1.2];exact h6 r
end
theorem Auw{ws:WS}(h:ws.tab.Nodup):(ws.str x).tab.Nodup:=by
 unfold WS.str;split
 ·exact h
 ·rename_i hx;show(ws.tab++[x]).Nodup;rw[Rx];refine⟨h,by simp,λa ha b hb=>?_⟩;rw[DT.1 hb];intro e;have:=Rr.1 hx a ha;simp[e]at this
mutual
theorem Tt{most long:Nat}:∀(t:T) (ws ws':WS),ws.tab.Nodup->enc most long t ws=some ws'->ws'.tab.Nodup
 | .int n,ws,ws',hn,h=>by simp only[enc,Option.some.injEq]at h;subst h;exact hn
 | .bool n,ws,ws',hn,h=>by simp only[enc,Option.some.injEq]at h;subst h;exact hn
 | .nil,ws,ws',hn,h=>by simp only[enc,Option.some.injEq]at h;subst h;exact hn
 | .str x,ws,ws',hn,h=>by simp only[enc,Option.some.injEq]at h;subst h;exact Auw hn
 | .ptr t,ws,ws',hn,h=>by simp only[enc]at h;exact Tt t (ws.num 1) _ hn h
 | .list l,ws,ws',hn,h=>by simp only[enc]at h;exact Pt l (ws.num l.length) _ hn h
 | .agg sn l,ws,ws',hn,h=>by
  simp only[enc]at h;split at h
  ·split at h
   ·cases h
   ·simp only[BG]at h;obtain⟨u,hu,rfl⟩:=h;exact Pt l {ws with nest:=ws.nest+1} u hn hu
  ·exact Pt l _ _ hn h
theorem Pt{most long:Nat}:∀(l:List T) (ws ws':WS),ws.tab.Nodup->Bk most long l ws=some ws'->ws'.tab.Nodup
 |[],ws,ws',hn,h=>by simp only[Bk,Option.some.injEq]at h;subst h;exact hn
 |t::l,ws,ws',hn,h=>by
  simp only[Bk,BV]at h;obtain⟨u,hu,h⟩:=h;exact Pt l u _ (Tt t _ _ hn hu) h
end
theorem Amr{t:T}(hk:Kd t (.st .sheet))(h:Ho t=some bs):GC bs t:=by
 have hnd:∀ws',enc 1000 16777216 t ws0=some ws'->ws'.tab.Nodup:=λws' he=>Tt t ws0 ws' (by simp[ws0]) he;unfold Ho F2 at h;simp only[BV]at h;obtain⟨fb,⟨ws',he,hb⟩,hl⟩:=h;split at hb
 ·cases hb
 ·rename_i hwl;split at hl
  ·cases hl
  ·rename_i hll;simp only[Option.some.injEq]at hb hl;subst hl;obtain⟨c,h1,h2,h3⟩:=Pf (hnd ws' he) t _ ws0 ws' hk he (Mj _);have h1':ws'.b=c:=h1;have h3':=h3 [];have hsl:(EU (IW (magicB++num ws'.tab.length++Bu ws'.tab++ws'.b))).length=4:=rfl;have hlen:fb.length=(magicB++num ws'.tab.length++Bu ws'.tab++ws'.b).length+4:=by
    rw[<-hb];unfold FO C0;rw[Bh,hsl]
   have htake:fb.take (fb.length-4)=magicB++num ws'.tab.length++Bu ws'.tab++ws'.b:=by
    rw[hlen,Nat.add_sub_cancel,<-hb];unfold FO C0;exact HP
   have hm:magicB.length=4:=rfl;have hnp:=HC ws'.tab.length;refine⟨by omega,?_,?_,?_,ws'.tab,c,⟨[],ws'.tab,ws'.tab.length,0⟩,?_,hnd ws' he,?_,rfl,rfl⟩
   ·rw[hlen];simp only[Bh,h1'];omega
   ·rw[<-hb];unfold FO C0;simp only[Dg];rfl
   ·rw[htake,<-hb];rfl
   ·unfold body;rw[htake,h1'];simp only[Dg];rfl
   ·rw[FW]at h3';exact h3'
section
variable{w:World}{t:TypeId}
theorem Ace{d:Nat}(hd:0<d):(binOp .rem t (.int .u32 (n:Int)) (.int .u32 (d:Int))).run prog w= .ok (.int .u32 ((n%d:Nat):Int)) w:=by
 show(Op.intDiv .rem .u32 n d).run prog w=_;have h:¬((d:Int)=0):=by omega
 simp only[Op.intDiv,h,if_false];rw[show(n:Int).tmod (d:Int)=((n%d:Nat):Int)from rfl];rfl
theorem Acd{d:Nat}(hd:0<d)(hn:n<4294967296):(binOp .quo t (.int .u32 (n:Int)) (.int .u32 (d:Int))).run prog w= .ok (.int .u32 ((n/d:Nat):Int)) w:=by
 show(Op.intDiv .quo .u32 n d).run prog w=_;have h:¬((d:Int)=0):=by omega
 simp only[Op.intDiv,h,if_false];rw[show(n:Int).tdiv (d:Int)=((n/d:Nat):Int)from rfl,QX (Ox _) (DR.2 (RH (RC n d) hn))];rfl
end
theorem Abw(x:BitVec 32):Iz x=if x.toNat%2=1 then(x >>> 1) ^^^ GU else x >>> 1:=by
 have h:(x&&& 1#32).toNat=x.toNat%2:=by
  rw[K9];exact O8 x.toNat 1
 unfold Iz;rcases SA x with h0|h0
 ·rw[h0]at h⊢;have h1:x.toNat%2=0:=by rw[<-h];rfl
  rw[if_neg (by omega)];have:(-(0#32)&&& GU)=0#32:=by decide
  rw[this,Ol]
 ·rw[h0]at h⊢;have h1:x.toNat%2=1:=by rw[<-h];rfl
  rw[if_pos h1];have:(-(1#32)&&& GU)=GU:=by decide
  rw[this]
theorem Avi(x:BitVec 32):Value.int .u32 ((x.toNat/2:Nat):Int)=uv (x >>> 1):=by
 unfold uv;rw[LY,Mn]
theorem c26(h:Bts w v bs):Calls prog 26 [v].toArray w (End (λr w'=>r=uv (IW bs)/\w'=w) (λ_ _=>False)):=by
 have hml:bs.length<=9223372036854775807:=by have:=h.1;simpa[maxLen]using this
 obtain⟨g,cap,rfl,hget⟩:=h.val;refine AE 34 func26 V V V ?_;refine Ac (Ab (Ah V V (Ag (Ac (Ab (Ah V V (Ag ?_)))))));refine CM (ι:=Unit) (λ_=>[(3,uv (GN (BitVec.allOnes 32) bs))]) (λ_ w'=>w=w') ?_ ?_
 ·refine Ac (Ab (Ah V V (Ag ?_)));refine AF (BP (ι:=Nat) (λi=>[(0,.slice g bs.length cap),(3,uv (GN (BitVec.allOnes 32) (bs.take i))),(4,.int .i64 i)]) (λi w'=>i<=bs.length/\w=w') (λi=>bs.length-i) 0 ⟨V,V,V,trivial⟩ ⟨AW _,rfl⟩ ?_);rintro i _ ⟨hi,rfl⟩;refine Ac (Ac (Ab (Aa V V (Aa V V (AI V (AM underlying22) V (Al V V V V (Ag ?_)))))));refine AN V (λht=>AG λa ha=>Ak ?_) (λhf=>BC λa ha=>AD (AD (B_ (Ak ?_))))
  ·have hlt:i<bs.length:=by simp at ht;omega
   obtain⟨x,hx⟩:∃x,bs[i]? =some x:=⟨_,Bm hlt⟩;obtain⟨b,o,rfl,hc,_⟩:=hget i x hx;have hi1:∀w,(Instr.indexAt 22 (.slice (some ⟨b,o,none⟩) bs.length cap) (.int .i64 i)).run prog w= .ok (.pointer (some ⟨b,o+i,none⟩)) w:=λw=>by
    have:=Dy (P:=prog) (w:=w) (b:=b) (o:=o) (cap:=cap) (i:=(i:Int)) underlying22 G8 (by omega) (by omega:(i:Int)<(bs.length:Nat));rwa[Do,JJ]at this
   generalize hr:GN (BitVec.allOnes 32) (bs.take i)=r at ha;have hcx:=x.toNat_lt;refine A6 ha (Ac (AF (Ac (Ab (Aa V V (Aa V V (Aa V V (AO V V (hi1 _) V (Ae V (Ai G8 hc) V (BH V (De runUnderlying5 runUnderlying85) V ?_))))))))));rw[QX (by omega) (by omega)];rw[show Value.int .u32 ((x.toNat:Nat):Int)=uv (BitVec.ofNat 32 x.toNat)by unfold uv;rw[LX,II (by omega)]];refine Al V V (NN (x:=r) (y:=BitVec.ofNat 32 x.toNat)) V (Ah V V (Aj [(0,.slice (some ⟨b,o,none⟩) bs.length cap),(3,uv (r ^^^ BitVec.ofNat 32 x.toNat)),(4,.int .i64 i)] ⟨V,V,V,trivial⟩ ?_));generalize hy:r ^^^ BitVec.ofNat 32 x.toNat=y;refine Ac (Ab (Ah V V (Ag ?_)));refine AF (BP (ι:=Nat) (λk=>[(0,.slice (some ⟨b,o,none⟩) bs.length cap),(3,uv (Dz k y)),(4,.int .i64 i),(5,.int .i64 k)]) (λk w'=>k<=8/\w=w') (λk=>8-k) 0 ⟨V,V,V,V,trivial⟩ ⟨by decide,rfl⟩ ?_);rintro k _ ⟨hk,rfl⟩;refine Ac (Ac (Ab (Aa V V (Al V V V V (Ag ?_)))));refine AN V (λht=>AG λa ha=>Ak ?_) (λhf=>BC λa ha=>AD (AD (B_ (BK (Ak ?_)))))
   ·have hk8:k<8:=by simp at ht;omega
    generalize hz:Dz k y=z at ha;have hzl:=z.isLt;refine A6 ha (Ac (AF (Ac (Ab (Aa V V (Al V V (Ace (d:=2) (by decide)) V (Ah V V (Ag ?_))))))));refine Ac (Ab (Aa V V (Al V V (Acd (d:=2) (by decide) hzl) V (Ah V V (Ag ?_)))));rw[Avi];refine Ac (Ab (Aa V V (Al V V (E0 (c:=decide (z.toNat%2=1)) (BM.2 (by omega))) V (Ag ?_))));have fin:∀{a:Act}{m:Env},Loc 34 [] m a->m.get 0=some (.slice (some ⟨b,o,none⟩) bs.length cap)->m.get 3=some (uv (Iz z))->m.get 4=some (.int .i64 i)->m.get 5=some (.int .i64 k)->True:=λ_ _ _ _ _=>trivial;clear fin;refine AN V (λht=>?_) (λhf=>AG λa ha=>BK (Ak ?_))
    ·have h1:z.toNat%2=1:=B7 ht;refine Ab (Aa V V (Al V V (NN (x:=z >>> 1) (y:=GU)) V (Ah V V (A2 λa ha=>BK (Ak ?_)))));refine A6 ha (Ab (Aa V V (Al V V V V (Ah V V (A2 λa ha=>Ak ?_)))));refine⟨k+1,ha.weak ⟨rfl,?_,rfl,by show some _=some _;rw[Cl (by omega)],trivial⟩,⟨hk8,rfl⟩,by omega⟩;show some _=some _;rw[Dz,hz,Abw,if_pos h1]
    ·have h1:¬z.toNat%2=1:=B2 hf;refine A6 ha (Ab (Aa V V (Al V V V V (Ah V V (A2 λa ha=>Ak ?_)))));refine⟨k+1,ha.weak ⟨rfl,?_,rfl,by show some _=some _;rw[Cl (by omega)],trivial⟩,⟨hk8,rfl⟩,by omega⟩;show some _=some _;rw[Dz,hz,Abw,if_neg h1]
   ·have:k=8:=by simp at hf;omega
    subst this;refine A6 ha (Ab (Aa V V (Al V V V V (Ah V V (A2 λa ha=>Ak ?_)))));refine⟨i+1,ha.weak ⟨rfl,?_,by show some _=some _;rw[Cl (by omega)],trivial⟩,⟨hlt,rfl⟩,by omega⟩;show some _=some _;rw[GZ hx,Tc,hr,upd,hy]
  ·have:i=bs.length:=by simp at hf;omega
   subst this;refine⟨(),ha.weak ⟨?_,trivial⟩,rfl⟩;rw[E5];rfl
 ·rintro _ _ rfl;refine Ac (Ab (Aa V V (Al V V (NN (x:=GN (BitVec.allOnes 32) bs) (y:=BitVec.allOnes 32)) V (Ah V V (Ag (AJ λa ha=>Ch V ha V ⟨?_,rfl⟩))))));rw[IW,BitVec.xor_allOnes]
theorem Aq5(x:BitVec 32):∀k,k<4->(EU x)[k]? =some ((x >>> (8*k)).toNat%256).toUInt8
 |0,_=>by simp[EU]
 |1,_=>rfl
 |2,_=>rfl
 |3,_=>rfl
 |k+4,h=>by omega
theorem At8(x:BitVec 32)(k:Nat):(x >>> (8*k)).toNat/256=(x >>> (8*(k+1))).toNat:=by
 simp only[LY,Mn];rw[Nat.div_div_eq_div_mul,show 8*(k+1)=8*k+8 by omega,Nat.pow_add]
theorem fr_new{o:Obj}:Fr (λ_=>False) w (λb=>b=w.heap.size) (w.alloc o):=⟨rfl,rfl,rfl,by simp,λb hb _=>heap_alloc_old w o b hb,λb hb=>.inr (by omega)⟩
theorem Asd{l:Nat}:Aw (.slice (some ⟨b,0,none⟩) l c)=λk=>k=b:=by
 funext k;simp only[Aw,Value.ownBlock,Option.some.injEq,eq_iff_iff];exact eq_comm
theorem Yq(h:Bts w v bs)(hl:bs.length<=2 ^ 45):
 Calls prog 14 [v].toArray w (End (λv' w'=>w'.ownsRow 0 5 1 v' (C0 bs).length ((C0 bs).map bv)/\Fr (λ_=>False) w (Aw v') w') (λ_ _=>False)):=by
 refine AE 24 func14 V V V ?_;refine Ac (Ab (Ah V V (Ag ?_)));refine Ac (Ab (Aa V V (Af call26 V V (c26 h) ?_ Am)));rintro _ w1 ⟨rfl,hw⟩;subst hw;generalize hx:IW bs=x;refine Ah V V (Ag ?_);refine Ac (Ab (BR V Aar V (Aa V V ?_)));obtain⟨v2,w2,hr2,r2,f2⟩:=E7 (ty:=22) Ab0 (h.keep0 (fr_new (o:=.cells ([]:List Value).toArray 5))).src (by simp;omega);have f02:Fr (λ_=>False) w1 (Aw v2) w2:=fr_new.trans (by rw[Asd]at f2;exact f2);refine CX V V hr2 V (Ah V V (Aj [(3,uv x),(4,v2)] ⟨V,V,trivial⟩ ?_));refine CM (ι:=Value) (λv=>[(4,v)]) (λv' w'=>w'.ownsRow 0 5 1 v' (C0 bs).length ((C0 bs).map bv)/\Fr (λ_=>False) w1 (Aw v') w') ?_ ?_
 ·refine Ac (Ab (Ah V V (Ag ?_)));refine AF (BP (ι:=Nat×Value) (λi=>[(3,uv (x >>> (8*i.1))),(4,i.2),(5,.int .i64 ((i.1:Nat):Int))]) (λi w'=>i.1<=4/\w'.ownsRow 0 5 1 i.2 (bs++(EU x).take i.1).length ((bs++(EU x).take i.1).map bv)/\Fr (λ_=>False) w1 (Aw i.2) w') (λi=>4-i.1) (0,v2)
   ⟨by show some _=some _;simp,rfl,rfl,trivial⟩ ⟨AW _,by simpa using r2,f02⟩ ?_)
  rintro⟨k,v3⟩ w3 ⟨hk,r3,f3⟩;simp only at hk r3 f3⊢;refine Ac (Ac (Ab (Aa V V (Al V V V V (Ag ?_)))));refine AN V (λht=>AG λa ha=>Ak ?_) (λhf=>BC λa ha=>AD (AD (B_ (Ak ?_))))
  ·have hk4:k<4:=by simp at ht;omega
   generalize hy:x >>> (8*k)=y at ha;have hyl:=y.isLt;refine A6 ha (Ac (AF (Ac (Ab (Aa V V (Aa V V (Al V V (Ace (d:=256) (by decide)) V (BH V (De runUnderlying85 runUnderlying5) V ?_))))))));rw[IA,WM,Nat.mod_mod];have hlt4:((EU x).take k).length=k:=by simp[EU];omega
   refine BR V (Lt V) V ?_;obtain⟨v4,w4,hr4,r4,f4⟩:=E7 (w:=w3.alloc (.cells [Value.int .u8 ((y.toNat%256:Nat):Int)].toArray 5)) (ty:=22) (ys:=[(y.toNat%256).toUInt8]) (L4 r3 _)
    (LB (n:=1) (c:=1) underlying22 (by rw[CA,Ie _ (by omega)];exact Cf) V (Mz _)) (by rw[Bh,hlt4];simp;omega)
   refine CX V V hr4 V (Ah V V (Ag ?_));refine Ab (Aa V V (Al V V (Acd (d:=256) (by decide) hyl) V (Ah V V (A2 λa ha=>BK (Ak ?_)))));refine A6 ha (Ab (Aa V V (Al V V V V (Ah V V (A2 λa ha=>Ak ?_)))));have hget:=Aq5 x k hk4;rw[hy]at hget;refine⟨(k+1,v4),ha.weak ⟨?_,rfl,by show some _=some _;rw[Cl (by omega)],trivial⟩,⟨hk4,?_,f3.trans ((Fr.alloc _ _ _).trans f4)⟩,by simp only;omega⟩
   ·show some _=some _;rw[<-hy,At8];rfl
   ·have e:bs++(EU x).take (k+1)=bs++(EU x).take k++[(y.toNat%256).toUInt8]:=by
     rw[KE,hget,Dg];rfl
    simp only[e];exact r4
  ·have:k=4:=by simp at hf;omega
   subst this;refine⟨v3,ha.weak ⟨V,trivial⟩,?_,f3⟩;have e:C0 bs=bs++(EU x).take 4:=by unfold C0;rw[hx];rfl
   rw[e];exact r3
 ·rintro v3 w3 ⟨r3,f3⟩;exact Ac (Ab (Aa V V (Ah V V (Ag (AJ λa ha=>Ch V ha V ⟨r3,f3⟩)))))
end Go.Sx