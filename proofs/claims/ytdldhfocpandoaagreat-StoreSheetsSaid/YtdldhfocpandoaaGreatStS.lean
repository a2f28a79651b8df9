import Derived.Test.YtdldhfocpandoaaGreatRows
import Derived.Test.YtdldhfocpandoaaGreatStL
import Derived.ChangeSlices
set_option maxHeartbeats 8000000
set_option maxRecDepth 8000
namespace Go.Sx
open Go.Proofs Go.Proofs.Tryz Go.Proofs.YtdldhfocpandoaaGreat Go.ChangeShapes Go.WideShapes Go.ChangeAt Go.RowKit
variable{w:World}
theorem Ahf{a:Addr}{v:Value}(h:w.cell? a=some v):a.spot=none/\a.block<w.heap.size:=by
 unfold World.cell? at h;split at h
 ·rename_i hh;split at h
  ·cases h
  ·rename_i hs;refine⟨?_,(FG.1 hh).1⟩;cases hsp:a.spot with
   |none=>rfl
   |some x=>rw[hsp]at hs;exact absurd V hs
 ·cases h
variable{o b:Nat}
theorem XZ{m k:Nat}:((Addr.mk b o none).add m).add k=⟨b,o+m+k,none⟩:=by
 unfold Addr.add;split<;>split<;>simp_all[Fe]
theorem Ahg{base n:Nat}{cs:List Value}(h:w.cells? base ⟨b,o,none⟩ n=some cs):cs.length=n/\At w b o cs:=by
 obtain⟨_,h1,h2⟩:=World.cells?_some h;refine⟨h1,λj v hj=>?_⟩;have hjl:=(C3.1 hj).1;have:=h2 j (by omega);rw[hj]at this;have e:=XZ (b:=b) (o:=o) (m:=0) (k:=j);rw[show(Addr.mk b o none).add 0=⟨b,o,none⟩from rfl]at e;rw[e]at this;exact this
theorem Ahh{base m n:Nat}{cs:List Value}(h:w.cells? base ((Addr.mk b o none).add m) n=some cs):cs.length=n/\At w b (o+m) cs:=by
 have e:(Addr.mk b o none).add m=⟨b,o+m,none⟩:=by
  have:=XZ (b:=b) (o:=o) (m:=m) (k:=0);rw[show((Addr.mk b o none).add m).add 0=(Addr.mk b o none).add m from rfl]at this;rw[this];rfl
 rw[e]at h;exact Ahg h
theorem Aqv{n:Int}(h:(Lit.int .i64 n).wf=true):AP n:=by
 simpa[Lit.wf,IntKind.min,IntKind.max,IntKind.signed,IntKind.bits,AP]using h
end Go.Sx