import Derived.Test.YtdldhfocpandoaaGreatStJ
import Derived.Carry
set_option maxHeartbeats 8000000
set_option maxRecDepth 8000
namespace Go.Sx
open Go.ChangeShapes Go.WideShapes Go.ChangeAt Go.RowKit
variable{P:Program}{H:Type}{enc:TypeId×Value->H}
theorem Fr.below{w w':World}(f:Fr (λ_=>False) w (λ_=>False) w'):Below w.heap.size w w':=⟨f.os,f.tape,f.output,f.size,λk hk=>f.blk k hk (λh=>h)⟩
theorem Aai(hl:laidOutB P=true){W W':World}(f:Fr (λ_=>False) W (λ_=>False) W'):∀{ts:List TypeId}{vs:List Value}{ds:List (DataW H)}{ps:List MemPlace},
 (∀t∈ts,P.readableRec t=true/\t<P.types.size)->DataW.TrodAll enc P W 0 (λ_=>true) true ts vs ds ps->(∀x∈ps,x.block<W.heap.size)->
 ∀sp:Nat->Bool,(∀p∈ps,sp p.block=true)->DataW.TrodAll enc P W' 0 sp true ts vs ds ps
 |[],[],[],_,_,h,_,_,_=>h
 |[],[],_::_,_,_,h,_,_,_=>h.elim
 |[],_::_,_,_,_,h,_,_,_=>h.elim
 |_::_,[],_,_,_,h,_,_,_=>h.elim
 |_::_,_::_,[],_,_,h,_,_,_=>h.elim
 |t::ts,v::vs,d::ds,ps,ht,⟨p,q,h1,h2,e⟩,hlt,sp,hs=>
  ⟨p,q,WideElems.Trod_stays hl (ht t (by simp)).1 (ht t (by simp)).2 h1 (λx hx=>f.below.same (hlt x (by rw[e];exact Rw _ hx))) (λx hx=>hs x (by rw[e];exact Rw _ hx)),
   Aai hl f (λt h=>ht t (by simp[h])) h2 (λx hx=>hlt x (by rw[e];exact KD _ hx)) sp (λx hx=>hs x (by rw[e];exact KD _ hx)),e⟩
theorem Asn{f:Func}{s:ChangeSpec}{again:Bool}{W W':World}{args:Array Value}{ds:List (DataW H)}{before:List MemPlace}(hl:laidOutB P=true)
 (hv:s.vars=[]) (hfn:s.fn H ds={results:=[.lit (.bool true)],args:=ds}) (hres:f.resultTypes=#[4]) (h4:P.underlying 4=some .bool)
 (ht:∀t∈f.params.toList,P.readableRec t=true/\t<P.types.size)
 (hW:DataW.Whole enc P f.params.toList s.vars false W args.toList ds [] before) (g:Fr (λ_=>False) W (λ_=>False) W'):
 s.post enc P f false true false again W args (.bool true) W':=by
 have hW':=hW;obtain⟨p,q,hA,hV,hpq,hfz,hnd⟩:=hW;rw[hv]at hV;obtain⟨_,rfl⟩:=trodVars_none hV;rw[FW]at hpq;subst hpq;have hlt:=λp hp=>hW'.lt p hp;have hr:(Value.bool true).resultList f.resultTypes.size=[.bool true]:=by rw[hres];rfl
 refine Ask (pa:=before) (pv:=[]) hW' (λb sp hd=>?_) (λsp hs=>?_) (λsp _=>?_) (by simp) (g.kept _) (λa ha=>g.frozen a ha) ?_
 ·rw[FW,hfn,hres];exact trodAll_cons_mk (shut_bool h4 _) trodAll_mk0
 ·rw[FW,hfn];exact Aai hl g ht hA hlt sp hs
 ·rw[hv,FW,hfn];rfl
 ·exact ok_one hres V (okWide_bool_mk h4 _)
end Go.Sx