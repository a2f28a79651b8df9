import Derived.Test.YtdldhfocpandoaaGreatNuB
import Derived.ProofKit
noncomputable section
set_option maxHeartbeats 8000000
set_option maxRecDepth 8000
namespace Go.Ck
open Go.Sx Go.Proofs Go.Proofs.Tryz
def As(f:Nat)(fn:Func)(j:Nat)(c:Con):Bool:=
 Nat.ble (Nz c) fn.ntmps&&Pd (YA f fn.ntmps) (loops f j) c (fn.body.getD .skip) fn.results.toList
theorem Acv{f:Nat}{fn:Func}{c:Con}{j:Nat}(hrun:∀f con',con'∈con f->GB prog f)(hf:prog.funcs[f]? =some fn)(hb:fn.body.isSome=true)(h:As f fn j c=true):FZ prog eT con f c:=by
 simp only[As,Aq]at h;obtain⟨b,hb⟩:=Xu.1 hb;have h2:=h.2;rw[hb]at h2;exact Aus (P:=prog) (G:=YA f 0) (fn:=fn) (c:=b) (rs:=fn.results.toList) (loops:=loops f j) QQ FS hrun Ank hf hb (by simp) h.1 h2
theorem Av{f:Nat}{fn:Func}{cs:List Con}(hrun:∀f con',con'∈con f->GB prog f)(hf:prog.funcs[f]? =some fn)(hb:fn.body.isSome=true)(h:(cs.zipIdx.all λp=>As f fn p.2 p.1)=true):∀c∈cs,FZ prog eT con f c:=by
 intro c hc;obtain⟨i,hi,rfl⟩:=List.mem_iff_getElem.1 hc;simp only[Bg]at h;exact Acv hrun hf hb (h (cs[i],i) (by rw[List.mem_zipIdx_iff_getElem?];simp[hi]))
end Go.Ck