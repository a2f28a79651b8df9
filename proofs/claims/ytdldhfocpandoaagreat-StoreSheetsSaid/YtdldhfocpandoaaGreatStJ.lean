import Derived.Test.YtdldhfocpandoaaGreatStI
import Derived.ProofKit
import Derived.OpenShut
import Derived.Test.YtdldhfocpandoaaGreatRows
import Derived.WalkKit
set_option maxHeartbeats 8000000
set_option maxRecDepth 8000
namespace Go.Sx
open Go.ChangeShapes Go.WideShapes Go.ChangeAt Go.RowKit
variable{P:Program}{H:Type}{enc:TypeId×Value->H}
theorem Fr.kept{w w':World}(f:Fr (λ_=>False) w (λ_=>False) w')(B:MemPlace->Prop):w.keptBut w' B:=by
 refine⟨f.os,f.output,λi hi=>?_⟩;rw[f.blk i hi (λh=>h)];cases h:w.heap[i]? with
 |none=>trivial
 |some o=>cases o<;>simp
theorem Fr.frozen{w w':World}(f:Fr (λ_=>False) w (λ_=>False) w')(a:Addr)(ha:a.block<w.heap.size):w'.frozen? a=w.frozen? a:=by
 unfold World.frozen?;rw[f.blk a.block ha (λh=>h)]
theorem Ask{f:Func}{s:ChangeSpec}{apart fresh handsOn again:Bool}{W W':World}{args:Array Value}{v:Value}{ds gs:List (DataW H)}{before pa pv:List MemPlace}
 (hW:DataW.Whole enc P f.params.toList s.vars apart W args.toList ds gs before)
 (hres:∀(b:Nat) (sp:Nat->Bool) (hd:Bool),DataW.TrodAll enc P W' b sp hd f.resultTypes.toList (v.resultList f.resultTypes.size) (s.fn H (ds++gs)).results [])
 (hargs:∀sp:Nat->Bool,(∀p∈before,sp p.block=true)->DataW.TrodAll enc P W' 0 sp true f.params.toList args.toList (s.fn H (ds++gs)).args pa)
 (hvars:∀sp:Nat->Bool,(∀p∈before,sp p.block=true)->DataW.TrodVars enc P W' sp s.vars (s.fn H (ds++gs)).vars pv)
 (hps:before=pa++pv) (hk:W.keptBut W' (·∈before)) (hfz:∀a:Addr,a.block<W.heap.size->W'.frozen? a=W.frozen? a)
 (hok:∀(j:Nat) (t:TypeId) (r:Value),f.resultTypes[j]? =some t->(v.resultList f.resultTypes.size)[j]? =some r->Value.okWide P W' .any 0 t r):
 s.post enc P f apart fresh handsOn again W args v W':=by
 have hold:∀p∈before,(λb=>decide (b<W.heap.size)) p.block=true:=λp hp=>by simpa using hW.lt p hp
 have hlt:=λp hp=>hW.lt p hp;refine⟨ds,gs,before,[],pa,pv,hW,hres _ _ _,hargs _ hold,hvars _ hold,World.keptBut_mono (λp hp=>⟨hp,?_⟩) hk,λ_=>?_⟩
 ·rw[hps,B3]at hp;exact Or.inr hp
 ·obtain⟨_,_,_,_,_,hz,hn⟩:=hW;refine⟨hok,_,_,([]++pa)++pv,⟨[]++pa,pv,trodAll_append (hargs _ (λ_ _=>rfl)) (hres _ _ _),hvars _ (λ_ _=>rfl),rfl,?_,?_⟩,?_⟩
  ·intro b off hp;have hp':(MemPlace.cell b off)∈before:=by rw[hps];simpa using hp
   rw[hfz _ (hlt _ hp')];exact hz b off hp'
  ·intro ha;have:=hn ha;rw[hps]at this;simpa using this
  ·intro p hp _;rw[hps];simpa using hp
open Go.Proofs Go.Proofs.Tryz Go.Proofs.YtdldhfocpandoaaGreat
theorem YH:laidOutB prog=true:=by kernel_rfl
theorem Amh:mapsRowed prog=true:=by kernel_rfl
theorem Ami:(prog.stops==[])=true:=by kernel_rfl
theorem Ame:(prog.stopKnobs==[])=true:=by kernel_rfl
theorem Amd:prog.plainKeys=true:=by kernel_rfl
theorem Amc:prog.stopsHeard=true:=by kernel_rfl
theorem Amb:prog.mayEnter=true:=by kernel_rfl
theorem Amg:prog.make=some (Rows.storeKnownRow.make):=by kernel_rfl
theorem Amf:prog.liftsFinal=false:=by kernel_rfl
end Go.Sx