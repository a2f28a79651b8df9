import Derived.Test.YtdldhfocpandoaaGreatStF
set_option maxHeartbeats 8000000
set_option maxRecDepth 8000
namespace Go.Sx
open Go.Proofs Go.Proofs.Tryz
variable{k p n0:Nat}
theorem M_:Be n0 p 126 (.st .type) k:=by
 intro s w hs hnk;obtain⟨Z,hz,hzl⟩:∃Z:List Value,(∀w,(zeroValue 63).run prog w= .ok (.agg Z.toArray) w)/\Z.length=Co [1,1,2,1]:=⟨_,zeroValue63,rfl⟩;refine AE 16 func126 V V V ?_;refine Ac (Ab (Ct (hz _) V (Aj [(0,ptr p),(2,ptr w.heap.size)] ⟨V,V,trivial⟩ ?_)));have M:=MSt.new (tid:=63) (sz:=[1,1,2,1]) hs hzl;have hcs:w.heap.size<(w.alloc (.cells Z.toArray 63)).heap.size:=by simp
 show W _ _ _ _ _ _ (w.alloc (.cells Z.toArray 63));generalize w.alloc (.cells Z.toArray 63)=w1 at M hcs⊢;refine Ac (Ab ?_);refine Aa V V ?_;refine Af call118 V V (Dv _ _ M.rst (M.nest.trans hnk)) ?_ ?_;rotate_left
 ·intro ch w' hf a ha;exact Ap (A8 ha (M.fail_st V V hf))
 rintro _ w' g;obtain⟨c0,s',rfl,M,H0,_⟩:=M.call g;refine Aa V V ?_;refine Af call118 V V (Dv _ _ M.rst (M.nest.trans hnk)) ?_ ?_;rotate_left
 ·intro ch w' hf a ha;exact Ap (A8 ha (M.fail_st V V hf))
 rintro _ w' g;obtain⟨c1,s',rfl,M,H1,_⟩:=M.call g;refine Ad V (U7 _ _ _) V ?_;obtain⟨w',hst,M⟩:=M.store (off:=0) 0 H0 AQ rfl rfl;refine An V V hst ?_;refine Ad V (U8 _ _ _) V ?_;obtain⟨w',hst,M⟩:=M.store (off:=1) 1 H1 AQ rfl rfl;refine An V V hst ?_;refine Aj [(0,ptr p),(2,ptr w.heap.size)] ⟨V,V,trivial⟩ ?_;refine Ac (Ab ?_);refine Aa V V ?_;refine Af call189 V V (Ys _ _ M.rst (M.nest.trans hnk)) ?_ ?_;rotate_left
 ·intro ch w' hf a ha;exact Ap (A8 ha (M.fail_st V V hf))
 rintro _ w' g;obtain⟨c2,s',rfl,M,H2,_⟩:=M.call g;refine Ad V (U9 _ _ _) V ?_;obtain⟨w',hst,M⟩:=M.store (off:=2) 2 H2 Is rfl rfl;refine An V V hst ?_;refine Aj [(0,ptr p),(2,ptr w.heap.size)] ⟨V,V,trivial⟩ ?_;refine Ac (Ab ?_);refine Aa V V ?_;refine Af call56 V V (CN _ _ M.rst (M.nest.trans hnk)) ?_ ?_;rotate_left
 ·intro ch w' hf a ha;exact Ap (A8 ha (M.fail_st V V hf))
 rintro _ w' g;obtain⟨c3,s',rfl,M,H3,_⟩:=M.call g;refine Ad V (U_ _ _ _) V ?_;obtain⟨w',hst,M⟩:=M.store (off:=4) 3 H3 AK rfl rfl;refine An V V hst ?_;refine Aj [(0,ptr p),(2,ptr w.heap.size)] ⟨V,V,trivial⟩ ?_;obtain⟨hl,h1,l,hchk,hrep⟩:=M.rep_st (sn:=.type) rfl;have B:=M.blk.all;obtain⟨w',hst,M,_⟩:=M.self (N:=5) Ex hl h1;exact Ac (Ab (Ae V (AS Ex hl B) V (An V V hst (Ag (AJ λa ha=>Em V ha V (AS Ex hl M.blk.all) (M.good_st V V))))))
theorem Aff:Be n0 p 130 (.st .swap) k:=by
 intro s w hs hnk;obtain⟨Z,hz,hzl⟩:∃Z:List Value,(∀w,(zeroValue 170).run prog w= .ok (.agg Z.toArray) w)/\Z.length=Co [1,1]:=⟨_,zeroValue170,rfl⟩;refine AE 10 func130 V V V ?_;refine Ac (Ab (Ct (hz _) V (Aj [(0,ptr p),(2,ptr w.heap.size)] ⟨V,V,trivial⟩ ?_)));have M:=MSt.new (tid:=170) (sz:=[1,1]) hs hzl;have hcs:w.heap.size<(w.alloc (.cells Z.toArray 170)).heap.size:=by simp
 show W _ _ _ _ _ _ (w.alloc (.cells Z.toArray 170));generalize w.alloc (.cells Z.toArray 170)=w1 at M hcs⊢;refine Ac (Ab ?_);refine Aa V V ?_;refine Af call118 V V (Dv _ _ M.rst (M.nest.trans hnk)) ?_ ?_;rotate_left
 ·intro ch w' hf a ha;exact Ap (A8 ha (M.fail_st V V hf))
 rintro _ w' g;obtain⟨c0,s',rfl,M,H0,_⟩:=M.call g;refine Aa V V ?_;refine Af call56 V V (CN _ _ M.rst (M.nest.trans hnk)) ?_ ?_;rotate_left
 ·intro ch w' hf a ha;exact Ap (A8 ha (M.fail_st V V hf))
 rintro _ w' g;obtain⟨c1,s',rfl,M,H1,_⟩:=M.call g;refine Ad V (Ui _ _ _) V ?_;obtain⟨w',hst,M⟩:=M.store (off:=0) 0 H0 AQ rfl rfl;refine An V V hst ?_;refine Ad V (Uj _ _ _) V ?_;obtain⟨w',hst,M⟩:=M.store (off:=1) 1 H1 AK rfl rfl;refine An V V hst ?_;refine Aj [(0,ptr p),(2,ptr w.heap.size)] ⟨V,V,trivial⟩ ?_;obtain⟨hl,h1,l,hchk,hrep⟩:=M.rep_st (sn:=.swap) rfl;have B:=M.blk.all;obtain⟨w',hst,M,_⟩:=M.self (N:=2) Kf hl h1;exact Ac (Ab (Ae V (AS Kf hl B) V (An V V hst (Ag (AJ λa ha=>Em V ha V (AS Kf hl M.blk.all) (M.good_st V V))))))
theorem c70:Be n0 p 70 (.st .mode) k:=by
 intro s w hs hnk;obtain⟨Z,hz,hzl⟩:∃Z:List Value,(∀w,(zeroValue 84).run prog w= .ok (.agg Z.toArray) w)/\Z.length=Co [1,1,1,1,1,1]:=⟨_,zeroValue84,rfl⟩;refine AE 22 func70 V V V ?_;refine Ac (Ab (Ct (hz _) V (Aj [(0,ptr p),(2,ptr w.heap.size)] ⟨V,V,trivial⟩ ?_)));have M:=MSt.new (tid:=84) (sz:=[1,1,1,1,1,1]) hs hzl;have hcs:w.heap.size<(w.alloc (.cells Z.toArray 84)).heap.size:=by simp
 show W _ _ _ _ _ _ (w.alloc (.cells Z.toArray 84));generalize w.alloc (.cells Z.toArray 84)=w1 at M hcs⊢;refine Ac (Ab ?_);refine Aa V V ?_;refine Af call56 V V (CN _ _ M.rst (M.nest.trans hnk)) ?_ ?_;rotate_left
 ·intro ch w' hf a ha;exact Ap (A8 ha (M.fail_st V V hf))
 rintro _ w' g;obtain⟨c0,s',rfl,M,H0,_⟩:=M.call g;refine Aa V V ?_;refine Af call56 V V (CN _ _ M.rst (M.nest.trans hnk)) ?_ ?_;rotate_left
 ·intro ch w' hf a ha;exact Ap (A8 ha (M.fail_st V V hf))
 rintro _ w' g;obtain⟨c1,s',rfl,M,H1,_⟩:=M.call g;refine Aa V V ?_;refine Af call117 V V (F8 _ _ M.rst (M.nest.trans hnk)) ?_ ?_;rotate_left
 ·intro ch w' hf a ha;exact Ap (A8 ha (M.fail_st V V hf))
 rintro _ w' g;obtain⟨c2,s',rfl,M,H2,_⟩:=M.call g;refine Aa V V ?_;refine Af call117 V V (F8 _ _ M.rst (M.nest.trans hnk)) ?_ ?_;rotate_left
 ·intro ch w' hf a ha;exact Ap (A8 ha (M.fail_st V V hf))
 rintro _ w' g;obtain⟨c3,s',rfl,M,H3,_⟩:=M.call g;refine Aa V V ?_;refine Af call56 V V (CN _ _ M.rst (M.nest.trans hnk)) ?_ ?_;rotate_left
 ·intro ch w' hf a ha;exact Ap (A8 ha (M.fail_st V V hf))
 rintro _ w' g;obtain⟨c4,s',rfl,M,H4,_⟩:=M.call g;refine Aa V V ?_;refine Af call118 V V (Dv _ _ M.rst (M.nest.trans hnk)) ?_ ?_;rotate_left
 ·intro ch w' hf a ha;exact Ap (A8 ha (M.fail_st V V hf))
 rintro _ w' g;obtain⟨c5,s',rfl,M,H5,_⟩:=M.call g;refine Ad V (Vn _ _ _) V ?_;obtain⟨w',hst,M⟩:=M.store (off:=0) 0 H0 AK rfl rfl;refine An V V hst ?_;refine Ad V (PT _ _ _) V ?_;obtain⟨w',hst,M⟩:=M.store (off:=1) 1 H1 AK rfl rfl;refine An V V hst ?_;refine Ad V (Vo _ _ _) V ?_;obtain⟨w',hst,M⟩:=M.store (off:=2) 2 H2 Cm rfl rfl;refine An V V hst ?_;refine Ad V (Vp _ _ _) V ?_;obtain⟨w',hst,M⟩:=M.store (off:=3) 3 H3 Cm rfl rfl;refine An V V hst ?_;refine Ad V (Vq _ _ _) V ?_;obtain⟨w',hst,M⟩:=M.store (off:=4) 4 H4 AK rfl rfl;refine An V V hst ?_;refine Ad V (Vr _ _ _) V ?_;obtain⟨w',hst,M⟩:=M.store (off:=5) 5 H5 AQ rfl rfl;refine An V V hst ?_;refine Aj [(0,ptr p),(2,ptr w.heap.size)] ⟨V,V,trivial⟩ ?_;obtain⟨hl,h1,l,hchk,hrep⟩:=M.rep_st (sn:=.mode) rfl;have B:=M.blk.all;obtain⟨w',hst,M,_⟩:=M.self (N:=6) Gs hl h1;exact Ac (Ab (Ae V (AS Gs hl B) V (An V V hst (Ag (AJ λa ha=>Em V ha V (AS Gs hl M.blk.all) (M.good_st V V))))))
theorem c72:Be n0 p 72 (.st .output) k:=by
 intro s w hs hnk;obtain⟨Z,hz,hzl⟩:∃Z:List Value,(∀w,(zeroValue 157).run prog w= .ok (.agg Z.toArray) w)/\Z.length=Co [1,1,1,1,1]:=⟨_,zeroValue157,rfl⟩;refine AE 21 func72 V V V ?_;refine Ac (Ab (Ct (hz _) V (Aj [(0,ptr p),(2,ptr w.heap.size)] ⟨V,V,trivial⟩ ?_)));have M:=MSt.new (tid:=157) (sz:=[1,1,1,1,1]) hs hzl;have hcs:w.heap.size<(w.alloc (.cells Z.toArray 157)).heap.size:=by simp
 show W _ _ _ _ _ _ (w.alloc (.cells Z.toArray 157));generalize w.alloc (.cells Z.toArray 157)=w1 at M hcs⊢;refine Ac (Ab ?_);refine Aa V V ?_;refine Af call56 V V (CN _ _ M.rst (M.nest.trans hnk)) ?_ ?_;rotate_left
 ·intro ch w' hf a ha;exact Ap (A8 ha (M.fail_st V V hf))
 rintro _ w' g;obtain⟨c0,s',rfl,M,H0,_⟩:=M.call g;refine Aa V V ?_;refine Af call56 V V (CN _ _ M.rst (M.nest.trans hnk)) ?_ ?_;rotate_left
 ·intro ch w' hf a ha;exact Ap (A8 ha (M.fail_st V V hf))
 rintro _ w' g;obtain⟨c1,s',rfl,M,H1,_⟩:=M.call g;refine Aa V V ?_;refine Af call117 V V (F8 _ _ M.rst (M.nest.trans hnk)) ?_ ?_;rotate_left
 ·intro ch w' hf a ha;exact Ap (A8 ha (M.fail_st V V hf))
 rintro _ w' g;obtain⟨c2,s',rfl,M,H2,_⟩:=M.call g;refine Aa V V ?_;refine Af call117 V V (F8 _ _ M.rst (M.nest.trans hnk)) ?_ ?_;rotate_left
 ·intro ch w' hf a ha;exact Ap (A8 ha (M.fail_st V V hf))
 rintro _ w' g;obtain⟨c3,s',rfl,M,H3,_⟩:=M.call g;refine Ad V (Uc _ _ _) V ?_;obtain⟨w',hst,M⟩:=M.store (off:=0) 0 H0 AK rfl rfl;refine An V V hst ?_;refine Ad V (Ud _ _ _) V ?_;obtain⟨w',hst,M⟩:=M.store (off:=1) 1 H1 AK rfl rfl;refine An V V hst ?_;refine Ad V (Ue _ _ _) V ?_;obtain⟨w',hst,M⟩:=M.store (off:=2) 2 H2 Cm rfl rfl;refine An V V hst ?_;refine Ad V (Uf _ _ _) V ?_;obtain⟨w',hst,M⟩:=M.store (off:=3) 3 H3 Cm rfl rfl;refine An V V hst ?_;refine Aj [(0,ptr p),(2,ptr w.heap.size)] ⟨V,V,trivial⟩ ?_;refine Ac (Ab ?_);refine Aa V V ?_;refine Aa V V ?_;refine Ba V V V ?_;refine Af call121 V V ((SF CN) _ _ M.rst (M.nest.trans hnk)) ?_ ?_;rotate_left
 ·intro ch w' hf a ha;exact Ap (A8 ha (M.fail_st V V hf))
 rintro _ w' g;obtain⟨c4,s',rfl,M,H4,_⟩:=M.call g;refine Ad V (Ug _ _ _) V ?_;obtain⟨w',hst,M⟩:=M.store (off:=4) 4 H4 Ei rfl rfl;refine An V V hst ?_;refine Aj [(0,ptr p),(2,ptr w.heap.size)] ⟨V,V,trivial⟩ ?_;obtain⟨hl,h1,l,hchk,hrep⟩:=M.rep_st (sn:=.output) rfl;have B:=M.blk.all;obtain⟨w',hst,M,_⟩:=M.self (N:=5) Hs hl h1;exact Ac (Ab (Ae V (AS Hs hl B) V (An V V hst (Ag (AJ λa ha=>Em V ha V (AS Hs hl M.blk.all) (M.good_st V V))))))
theorem c74:Be n0 p 74 (.st .charMap) k:=by
 intro s w hs hnk;obtain⟨Z,hz,hzl⟩:∃Z:List Value,(∀w,(zeroValue 162).run prog w= .ok (.agg Z.toArray) w)/\Z.length=Co [1,1]:=⟨_,zeroValue162,rfl⟩;refine AE 12 func74 V V V ?_;refine Ac (Ab (Ct (hz _) V (Aj [(0,ptr p),(2,ptr w.heap.size)] ⟨V,V,trivial⟩ ?_)));have M:=MSt.new (tid:=162) (sz:=[1,1]) hs hzl;have hcs:w.heap.size<(w.alloc (.cells Z.toArray 162)).heap.size:=by simp
 show W _ _ _ _ _ _ (w.alloc (.cells Z.toArray 162));generalize w.alloc (.cells Z.toArray 162)=w1 at M hcs⊢;refine Ac (Ab ?_);refine Aa V V ?_;refine Af call56 V V (CN _ _ M.rst (M.nest.trans hnk)) ?_ ?_;rotate_left
 ·intro ch w' hf a ha;exact Ap (A8 ha (M.fail_st V V hf))
 rintro _ w' g;obtain⟨c0,s',rfl,M,H0,_⟩:=M.call g;refine Ad V (Uh _ _ _) V ?_;obtain⟨w',hst,M⟩:=M.store (off:=0) 0 H0 AK rfl rfl;refine An V V hst ?_;refine Aj [(0,ptr p),(2,ptr w.heap.size)] ⟨V,V,trivial⟩ ?_;refine Ac (Ab ?_);refine Aa V V ?_;refine Aa V V ?_;refine Ba V V V ?_;refine Af call129 V V ((Afe Aff) _ _ M.rst (M.nest.trans hnk)) ?_ ?_;rotate_left
 ·intro ch w' hf a ha;exact Ap (A8 ha (M.fail_st V V hf))
 rintro _ w' g;obtain⟨c1,s',rfl,M,H1,_⟩:=M.call g;refine Ad V (Lj _ _ _) V ?_;obtain⟨w',hst,M⟩:=M.store (off:=1) 1 H1 Ke rfl rfl;refine An V V hst ?_;refine Aj [(0,ptr p),(2,ptr w.heap.size)] ⟨V,V,trivial⟩ ?_;obtain⟨hl,h1,l,hchk,hrep⟩:=M.rep_st (sn:=.charMap) rfl;have B:=M.blk.all;obtain⟨w',hst,M,_⟩:=M.self (N:=2) Ht hl h1;exact Ac (Ab (Ae V (AS Ht hl B) V (An V V hst (Ag (AJ λa ha=>Em V ha V (AS Ht hl M.blk.all) (M.good_st V V))))))
theorem Yu(hX:Be n0 p 120 (.st .expr) k):Be n0 p 191 (.st .part) k:=by
 intro s w hs hnk;obtain⟨Z,hz,hzl⟩:∃Z:List Value,(∀w,(zeroValue 282).run prog w= .ok (.agg Z.toArray) w)/\Z.length=Co [1,1,16]:=⟨_,zeroValue282,rfl⟩;refine AE 13 func191 V V V ?_;refine Ac (Ab (Ct (hz _) V (Aj [(0,ptr p),(2,ptr w.heap.size)] ⟨V,V,trivial⟩ ?_)));have M:=MSt.new (tid:=282) (sz:=[1,1,16]) hs hzl;have hcs:w.heap.size<(w.alloc (.cells Z.toArray 282)).heap.size:=by simp
 show W _ _ _ _ _ _ (w.alloc (.cells Z.toArray 282));generalize w.alloc (.cells Z.toArray 282)=w1 at M hcs⊢;refine Ac (Ab ?_);refine Aa V V ?_;refine Af call56 V V (CN _ _ M.rst (M.nest.trans hnk)) ?_ ?_;rotate_left
 ·intro ch w' hf a ha;exact Ap (A8 ha (M.fail_st V V hf))
 rintro _ w' g;obtain⟨c0,s',rfl,M,H0,_⟩:=M.call g;refine Aa V V ?_;refine Af call117 V V (F8 _ _ M.rst (M.nest.trans hnk)) ?_ ?_;rotate_left
 ·intro ch w' hf a ha;exact Ap (A8 ha (M.fail_st V V hf))
 rintro _ w' g;obtain⟨c1,s',rfl,M,H1,_⟩:=M.call g;refine Aa V V ?_;refine Af call120 V V (hX _ _ M.rst (M.nest.trans hnk)) ?_ ?_;rotate_left
 ·intro ch w' hf a ha;exact Ap (A8 ha (M.fail_st V V hf))
 rintro _ w' g;obtain⟨c2,s',rfl,M,H2,_⟩:=M.call g;refine Ad V (Us _ _ _) V ?_;obtain⟨w',hst,M⟩:=M.store (off:=0) 0 H0 AK rfl rfl;refine An V V hst ?_;refine Ad V (Ut _ _ _) V ?_;obtain⟨w',hst,M⟩:=M.store (off:=1) 1 H1 Cm rfl rfl;refine An V V hst ?_;refine Ad V (Uu _ _ _) V ?_;obtain⟨w',hst,M⟩:=M.store (off:=2) 2 H2 Cr rfl rfl;refine An V V hst ?_;refine Aj [(0,ptr p),(2,ptr w.heap.size)] ⟨V,V,trivial⟩ ?_;obtain⟨hl,h1,l,hchk,hrep⟩:=M.rep_st (sn:=.part) rfl;have B:=M.blk.all;obtain⟨w',hst,M,_⟩:=M.self (N:=18) Jm hl h1;exact Ac (Ab (Ae V (AS Jm hl B) V (An V V hst (Ag (AJ λa ha=>Em V ha V (AS Jm hl M.blk.all) (M.good_st V V))))))
theorem Yw(hX:Be n0 p 120 (.st .expr) k):Be n0 p 193 (.st .sort) k:=by
 intro s w hs hnk;obtain⟨Z,hz,hzl⟩:∃Z:List Value,(∀w,(zeroValue 286).run prog w= .ok (.agg Z.toArray) w)/\Z.length=Co [16,1,1,1]:=⟨_,zeroValue286,rfl⟩;refine AE 16 func193 V V V ?_;refine Ac (Ab (Ct (hz _) V (Aj [(0,ptr p),(2,ptr w.heap.size)] ⟨V,V,trivial⟩ ?_)));have M:=MSt.new (tid:=286) (sz:=[16,1,1,1]) hs hzl;have hcs:w.heap.size<(w.alloc (.cells Z.toArray 286)).heap.size:=by simp
 show W _ _ _ _ _ _ (w.alloc (.cells Z.toArray 286));generalize w.alloc (.cells Z.toArray 286)=w1 at M hcs⊢;refine Ac (Ab ?_);refine Aa V V ?_;refine Af call120 V V (hX _ _ M.rst (M.nest.trans hnk)) ?_ ?_;rotate_left
 ·intro ch w' hf a ha;exact Ap (A8 ha (M.fail_st V V hf))
 rintro _ w' g;obtain⟨c0,s',rfl,M,H0,_⟩:=M.call g;refine Aa V V ?_;refine Af call117 V V (F8 _ _ M.rst (M.nest.trans hnk)) ?_ ?_;rotate_left
 ·intro ch w' hf a ha;exact Ap (A8 ha (M.fail_st V V hf))
 rintro _ w' g;obtain⟨c1,s',rfl,M,H1,_⟩:=M.call g;refine Aa V V ?_;refine Af call117 V V (F8 _ _ M.rst (M.nest.trans hnk)) ?_ ?_;rotate_left
 ·intro ch w' hf a ha;exact Ap (A8 ha (M.fail_st V V hf))
 rintro _ w' g;obtain⟨c2,s',rfl,M,H2,_⟩:=M.call g;refine Aa V V ?_;refine Af call56 V V (CN _ _ M.rst (M.nest.trans hnk)) ?_ ?_;rotate_left
 ·intro ch w' hf a ha;exact Ap (A8 ha (M.fail_st V V hf))
 rintro _ w' g;obtain⟨c3,s',rfl,M,H3,_⟩:=M.call g;refine Ad V (Uv _ _ _) V ?_;obtain⟨w',hst,M⟩:=M.store (off:=0) 0 H0 Cr rfl rfl;refine An V V hst ?_;refine Ad V (Uw _ _ _) V ?_;obtain⟨w',hst,M⟩:=M.store (off:=16) 1 H1 Cm rfl rfl;refine An V V hst ?_;refine Ad V (Ux _ _ _) V ?_;obtain⟨w',hst,M⟩:=M.store (off:=17) 2 H2 Cm rfl rfl;refine An V V hst ?_;refine Ad V (Uy _ _ _) V ?_;obtain⟨w',hst,M⟩:=M.store (off:=18) 3 H3 AK rfl rfl;refine An V V hst ?_;refine Aj [(0,ptr p),(2,ptr w.heap.size)] ⟨V,V,trivial⟩ ?_;obtain⟨hl,h1,l,hchk,hrep⟩:=M.rep_st (sn:=.sort) rfl;have B:=M.blk.all;obtain⟨w',hst,M,_⟩:=M.self (N:=19) Iq hl h1;exact Ac (Ab (Ae V (AS Iq hl B) V (An V V hst (Ag (AJ λa ha=>Em V ha V (AS Iq hl M.blk.all) (M.good_st V V))))))
theorem Af2(hX:Be n0 p 120 (.st .expr) k):Be n0 p 195 (.st .source) k:=by
 intro s w hs hnk;obtain⟨Z,hz,hzl⟩:∃Z:List Value,(∀w,(zeroValue 290).run prog w= .ok (.agg Z.toArray) w)/\Z.length=Co [16,1]:=⟨_,zeroValue290,rfl⟩;refine AE 12 func195 V V V ?_;refine Ac (Ab (Ct (hz _) V (Aj [(0,ptr p),(2,ptr w.heap.size)] ⟨V,V,trivial⟩ ?_)));have M:=MSt.new (tid:=290) (sz:=[16,1]) hs hzl;have hcs:w.heap.size<(w.alloc (.cells Z.toArray 290)).heap.size:=by simp
 show W _ _ _ _ _ _ (w.alloc (.cells Z.toArray 290));generalize w.alloc (.cells Z.toArray 290)=w1 at M hcs⊢;refine Ac (Ab ?_);refine Aa V V ?_;refine Af call120 V V (hX _ _ M.rst (M.nest.trans hnk)) ?_ ?_;rotate_left
 ·intro ch w' hf a ha;exact Ap (A8 ha (M.fail_st V V hf))
 rintro _ w' g;obtain⟨c0,s',rfl,M,H0,_⟩:=M.call g;refine Ad V (Uz _ _ _) V ?_;obtain⟨w',hst,M⟩:=M.store (off:=0) 0 H0 Cr rfl rfl;refine An V V hst ?_;refine Aj [(0,ptr p),(2,ptr w.heap.size)] ⟨V,V,trivial⟩ ?_;refine Ac (Ab ?_);refine Aa V V ?_;refine Aa V V ?_;refine Ba V V V ?_;refine Af call192 V V ((Yv (Yw hX)) _ _ M.rst (M.nest.trans hnk)) ?_ ?_;rotate_left
 ·intro ch w' hf a ha;exact Ap (A8 ha (M.fail_st V V hf))
 rintro _ w' g;obtain⟨c1,s',rfl,M,H1,_⟩:=M.call g;refine Ad V (U0 _ _ _) V ?_;obtain⟨w',hst,M⟩:=M.store (off:=16) 1 H1 Ki rfl rfl;refine An V V hst ?_;refine Aj [(0,ptr p),(2,ptr w.heap.size)] ⟨V,V,trivial⟩ ?_;obtain⟨hl,h1,l,hchk,hrep⟩:=M.rep_st (sn:=.source) rfl;have B:=M.blk.all;obtain⟨w',hst,M,_⟩:=M.self (N:=17) Kg hl h1;exact Ac (Ab (Ae V (AS Kg hl B) V (An V V hst (Ag (AJ λa ha=>Em V ha V (AS Kg hl M.blk.all) (M.good_st V V))))))
theorem c66(hX:Be n0 p 120 (.st .expr) k):Be n0 p 66 (.st .key) k:=by
 intro s w hs hnk;obtain⟨Z,hz,hzl⟩:∃Z:List Value,(∀w,(zeroValue 76).run prog w= .ok (.agg Z.toArray) w)/\Z.length=Co [1,1,16]:=⟨_,zeroValue76,rfl⟩;refine AE 15 func66 V V V ?_;refine Ac (Ab (Ct (hz _) V (Aj [(0,ptr p),(2,ptr w.heap.size)] ⟨V,V,trivial⟩ ?_)));have M:=MSt.new (tid:=76) (sz:=[1,1,16]) hs hzl;have hcs:w.heap.size<(w.alloc (.cells Z.toArray 76)).heap.size:=by simp
 show W _ _ _ _ _ _ (w.alloc (.cells Z.toArray 76));generalize w.alloc (.cells Z.toArray 76)=w1 at M hcs⊢;refine Ac (Ab ?_);refine Aa V V ?_;refine Af call56 V V (CN _ _ M.rst (M.nest.trans hnk)) ?_ ?_;rotate_left
 ·intro ch w' hf a ha;exact Ap (A8 ha (M.fail_st V V hf))
 rintro _ w' g;obtain⟨c0,s',rfl,M,H0,_⟩:=M.call g;refine Ad V (Vk _ _ _) V ?_;obtain⟨w',hst,M⟩:=M.store (off:=0) 0 H0 AK rfl rfl;refine An V V hst ?_;refine Aj [(0,ptr p),(2,ptr w.heap.size)] ⟨V,V,trivial⟩ ?_;refine Ac (Ab ?_);refine Aa V V ?_;refine Aa V V ?_;refine Ba V V V ?_;refine Af call119 V V ((OX hX) _ _ M.rst (M.nest.trans hnk)) ?_ ?_;rotate_left
 ·intro ch w' hf a ha;exact Ap (A8 ha (M.fail_st V V hf))
 rintro _ w' g;obtain⟨c1,s',rfl,M,H1,_⟩:=M.call g;refine Ad V (Vl _ _ _) V ?_;obtain⟨w',hst,M⟩:=M.store (off:=1) 1 H1 FP rfl rfl;refine An V V hst ?_;refine Aj [(0,ptr p),(2,ptr w.heap.size)] ⟨V,V,trivial⟩ ?_;refine Ac (Ab ?_);refine Aa V V ?_;refine Af call120 V V (hX _ _ M.rst (M.nest.trans hnk)) ?_ ?_;rotate_left
 ·intro ch w' hf a ha;exact Ap (A8 ha (M.fail_st V V hf))
 rintro _ w' g;obtain⟨c2,s',rfl,M,H2,_⟩:=M.call g;refine Ad V (Vm _ _ _) V ?_;obtain⟨w',hst,M⟩:=M.store (off:=2) 2 H2 Cr rfl rfl;refine An V V hst ?_;refine Aj [(0,ptr p),(2,ptr w.heap.size)] ⟨V,V,trivial⟩ ?_;obtain⟨hl,h1,l,hchk,hrep⟩:=M.rep_st (sn:=.key) rfl;have B:=M.blk.all;obtain⟨w',hst,M,_⟩:=M.self (N:=18) Jq hl h1;exact Ac (Ab (Ae V (AS Jq hl B) V (An V V hst (Ag (AJ λa ha=>Em V ha V (AS Jq hl M.blk.all) (M.good_st V V))))))
theorem Afd(hX:Be n0 p 120 (.st .expr) k):Be n0 p 128 (.st .rule) k:=by
 intro s w hs hnk;obtain⟨Z,hz,hzl⟩:∃Z:List Value,(∀w,(zeroValue 182).run prog w= .ok (.agg Z.toArray) w)/\Z.length=Co [1,1,16]:=⟨_,zeroValue182,rfl⟩;refine AE 15 func128 V V V ?_;refine Ac (Ab (Ct (hz _) V (Aj [(0,ptr p),(2,ptr w.heap.size)] ⟨V,V,trivial⟩ ?_)));have M:=MSt.new (tid:=182) (sz:=[1,1,16]) hs hzl;have hcs:w.heap.size<(w.alloc (.cells Z.toArray 182)).heap.size:=by simp
 show W _ _ _ _ _ _ (w.alloc (.cells Z.toArray 182));generalize w.alloc (.cells Z.toArray 182)=w1 at M hcs⊢;refine Ac (Ab ?_);refine Aa V V ?_;refine Aa V V ?_;refine Ba V V V ?_;refine Af call119 V V ((OX hX) _ _ M.rst (M.nest.trans hnk)) ?_ ?_;rotate_left
 ·intro ch w' hf a ha;exact Ap (A8 ha (M.fail_st V V hf))
 rintro _ w' g;obtain⟨c0,s',rfl,M,H0,_⟩:=M.call g;refine Ad V (Uk _ _ _) V ?_;obtain⟨w',hst,M⟩:=M.store (off:=0) 0 H0 FP rfl rfl;refine An V V hst ?_;refine Aj [(0,ptr p),(2,ptr w.heap.size)] ⟨V,V,trivial⟩ ?_;refine Ac (Ab ?_);refine Aa V V ?_;refine Af call117 V V (F8 _ _ M.rst (M.nest.trans hnk)) ?_ ?_;rotate_left
 ·intro ch w' hf a ha;exact Ap (A8 ha (M.fail_st V V hf))
 rintro _ w' g;obtain⟨c1,s',rfl,M,H1,_⟩:=M.call g;refine Aa V V ?_;refine Af call120 V V (hX _ _ M.rst (M.nest.trans hnk)) ?_ ?_;rotate_left
 ·intro ch w' hf a ha;exact Ap (A8 ha (M.fail_st V V hf))
 rintro _ w' g;obtain⟨c2,s',rfl,M,H2,_⟩:=M.call g;refine Ad V (Ul _ _ _) V ?_;obtain⟨w',hst,M⟩:=M.store (off:=1) 1 H1 Cm rfl rfl;refine An V V hst ?_;refine Ad V (Um _ _ _) V ?_;obtain⟨w',hst,M⟩:=M.store (off:=2) 2 H2 Cr rfl rfl;refine An V V hst ?_;refine Aj [(0,ptr p),(2,ptr w.heap.size)] ⟨V,V,trivial⟩ ?_;obtain⟨hl,h1,l,hchk,hrep⟩:=M.rep_st (sn:=.rule) rfl;have B:=M.blk.all;obtain⟨w',hst,M,_⟩:=M.self (N:=18) Jl hl h1;exact Ac (Ab (Ae V (AS Jl hl B) V (An V V hst (Ag (AJ λa ha=>Em V ha V (AS Jl hl M.blk.all) (M.good_st V V))))))
theorem c68(hX:Be n0 p 120 (.st .expr) k):Be n0 p 68 (.st .accum) k:=by
 intro s w hs hnk;obtain⟨Z,hz,hzl⟩:∃Z:List Value,(∀w,(zeroValue 151).run prog w= .ok (.agg Z.toArray) w)/\Z.length=Co [1,16,1]:=⟨_,zeroValue151,rfl⟩;refine AE 15 func68 V V V ?_;refine Ac (Ab (Ct (hz _) V (Aj [(0,ptr p),(2,ptr w.heap.size)] ⟨V,V,trivial⟩ ?_)));have M:=MSt.new (tid:=151) (sz:=[1,16,1]) hs hzl;have hcs:w.heap.size<(w.alloc (.cells Z.toArray 151)).heap.size:=by simp
 show W _ _ _ _ _ _ (w.alloc (.cells Z.toArray 151));generalize w.alloc (.cells Z.toArray 151)=w1 at M hcs⊢;refine Ac (Ab ?_);refine Aa V V ?_;refine Af call56 V V (CN _ _ M.rst (M.nest.trans hnk)) ?_ ?_;rotate_left
 ·intro ch w' hf a ha;exact Ap (A8 ha (M.fail_st V V hf))
 rintro _ w' g;obtain⟨c0,s',rfl,M,H0,_⟩:=M.call g;refine Aa V V ?_;refine Af call120 V V (hX _ _ M.rst (M.nest.trans hnk)) ?_ ?_;rotate_left
 ·intro ch w' hf a ha;exact Ap (A8 ha (M.fail_st V V hf))
 rintro _ w' g;obtain⟨c1,s',rfl,M,H1,_⟩:=M.call g;refine Ad V (Ua _ _ _) V ?_;obtain⟨w',hst,M⟩:=M.store (off:=0) 0 H0 AK rfl rfl;refine An V V hst ?_;refine Ad V (Ub _ _ _) V ?_;obtain⟨w',hst,M⟩:=M.store (off:=1) 1 H1 Cr rfl rfl;refine An V V hst ?_;refine Aj [(0,ptr p),(2,ptr w.heap.size)] ⟨V,V,trivial⟩ ?_;refine Ac (Ab ?_);refine Aa V V ?_;refine Aa V V ?_;refine Ba V V V ?_;refine Af call127 V V ((Afc (Afd hX)) _ _ M.rst (M.nest.trans hnk)) ?_ ?_;rotate_left
 ·intro ch w' hf a ha;exact Ap (A8 ha (M.fail_st V V hf))
 rintro _ w' g;obtain⟨c2,s',rfl,M,H2,_⟩:=M.call g;refine Ad V (JX _ _ _) V ?_;obtain⟨w',hst,M⟩:=M.store (off:=17) 2 H2 Jk rfl rfl;refine An V V hst ?_;refine Aj [(0,ptr p),(2,ptr w.heap.size)] ⟨V,V,trivial⟩ ?_;obtain⟨hl,h1,l,hchk,hrep⟩:=M.rep_st (sn:=.accum) rfl;have B:=M.blk.all;obtain⟨w',hst,M,_⟩:=M.self (N:=18) Gn hl h1;exact Ac (Ab (Ae V (AS Gn hl B) V (An V V hst (Ag (AJ λa ha=>Em V ha V (AS Gn hl M.blk.all) (M.good_st V V))))))
theorem Af4(hI:Be n0 p 125 (.st .instr) k):Be n0 p 197 (.st .ctch) k:=by
 intro s w hs hnk;obtain⟨Z,hz,hzl⟩:∃Z:List Value,(∀w,(zeroValue 294).run prog w= .ok (.agg Z.toArray) w)/\Z.length=Co [1,1]:=⟨_,zeroValue294,rfl⟩;refine AE 14 func197 V V V ?_;refine Ac (Ab (Ct (hz _) V (Aj [(0,ptr p),(2,ptr w.heap.size)] ⟨V,V,trivial⟩ ?_)));have M:=MSt.new (tid:=294) (sz:=[1,1]) hs hzl;have hcs:w.heap.size<(w.alloc (.cells Z.toArray 294)).heap.size:=by simp
 show W _ _ _ _ _ _ (w.alloc (.cells Z.toArray 294));generalize w.alloc (.cells Z.toArray 294)=w1 at M hcs⊢;refine Ac (Ab ?_);refine Aa V V ?_;refine Aa V V ?_;refine Ba V V V ?_;refine Af call241 V V ((Agb Dv) _ _ M.rst (M.nest.trans hnk)) ?_ ?_;rotate_left
 ·intro ch w' hf a ha;exact Ap (A8 ha (M.fail_st V V hf))
 rintro _ w' g;obtain⟨c0,s',rfl,M,H0,_⟩:=M.call g;refine Ad V (MV _ _ _) V ?_;obtain⟨w',hst,M⟩:=M.store (off:=0) 0 H0 Lp rfl rfl;refine An V V hst ?_;refine Aj [(0,ptr p),(2,ptr w.heap.size)] ⟨V,V,trivial⟩ ?_;refine Ac (Ab ?_);refine Aa V V ?_;refine Aa V V ?_;refine Ba V V V ?_;refine Af call124 V V ((KY hI) _ _ M.rst (M.nest.trans hnk)) ?_ ?_;rotate_left
 ·intro ch w' hf a ha;exact Ap (A8 ha (M.fail_st V V hf))
 rintro _ w' g;obtain⟨c1,s',rfl,M,H1,_⟩:=M.call g;refine Ad V (U1 _ _ _) V ?_;obtain⟨w',hst,M⟩:=M.store (off:=1) 1 H1 Ew rfl rfl;refine An V V hst ?_;refine Aj [(0,ptr p),(2,ptr w.heap.size)] ⟨V,V,trivial⟩ ?_;obtain⟨hl,h1,l,hchk,hrep⟩:=M.rep_st (sn:=.ctch) rfl;have B:=M.blk.all;obtain⟨w',hst,M,_⟩:=M.self (N:=2) Ir hl h1;exact Ac (Ab (Ae V (AS Ir hl B) V (An V V hst (Ag (AJ λa ha=>Em V ha V (AS Ir hl M.blk.all) (M.good_st V V))))))
theorem SH(hX:Be n0 p 120 (.st .expr) k)(hI:Be n0 p 125 (.st .instr) k):Be n0 p 123 (.st .param) k:=by
 intro s w hs hnk;obtain⟨Z,hz,hzl⟩:∃Z:List Value,(∀w,(zeroValue 216).run prog w= .ok (.agg Z.toArray) w)/\Z.length=Co [1,5,1,16,1]:=⟨_,zeroValue216,rfl⟩;refine AE 21 func123 V V V ?_;refine Ac (Ab (Ct (hz _) V (Aj [(0,ptr p),(2,ptr w.heap.size)] ⟨V,V,trivial⟩ ?_)));have M:=MSt.new (tid:=216) (sz:=[1,5,1,16,1]) hs hzl;have hcs:w.heap.size<(w.alloc (.cells Z.toArray 216)).heap.size:=by simp
 show W _ _ _ _ _ _ (w.alloc (.cells Z.toArray 216));generalize w.alloc (.cells Z.toArray 216)=w1 at M hcs⊢;refine Ac (Ab ?_);refine Aa V V ?_;refine Af call56 V V (CN _ _ M.rst (M.nest.trans hnk)) ?_ ?_;rotate_left
 ·intro ch w' hf a ha;exact Ap (A8 ha (M.fail_st V V hf))
 rintro _ w' g;obtain⟨c0,s',rfl,M,H0,_⟩:=M.call g;refine Aa V V ?_;refine Af call126 V V (M_ _ _ M.rst (M.nest.trans hnk)) ?_ ?_;rotate_left
 ·intro ch w' hf a ha;exact Ap (A8 ha (M.fail_st V V hf))
 rintro _ w' g;obtain⟨c1,s',rfl,M,H1,_⟩:=M.call g;refine Aa V V ?_;refine Af call117 V V (F8 _ _ M.rst (M.nest.trans hnk)) ?_ ?_;rotate_left
 ·intro ch w' hf a ha;exact Ap (A8 ha (M.fail_st V V hf))
 rintro _ w' g;obtain⟨c2,s',rfl,M,H2,_⟩:=M.call g;refine Aa V V ?_;refine Af call120 V V (hX _ _ M.rst (M.nest.trans hnk)) ?_ ?_;rotate_left
 ·intro ch w' hf a ha;exact Ap (A8 ha (M.fail_st V V hf))
 rintro _ w' g;obtain⟨c3,s',rfl,M,H3,_⟩:=M.call g;refine Ad V (Un _ _ _) V ?_;obtain⟨w',hst,M⟩:=M.store (off:=0) 0 H0 AK rfl rfl;refine An V V hst ?_;refine Ad V (Uo _ _ _) V ?_;obtain⟨w',hst,M⟩:=M.store (off:=1) 1 H1 Ex rfl rfl;refine An V V hst ?_;refine Ad V (Up _ _ _) V ?_;obtain⟨w',hst,M⟩:=M.store (off:=6) 2 H2 Cm rfl rfl;refine An V V hst ?_;refine Ad V (Uq _ _ _) V ?_;obtain⟨w',hst,M⟩:=M.store (off:=7) 3 H3 Cr rfl rfl;refine An V V hst ?_;refine Aj [(0,ptr p),(2,ptr w.heap.size)] ⟨V,V,trivial⟩ ?_;refine Ac (Ab ?_);refine Aa V V ?_;refine Aa V V ?_;refine Ba V V V ?_;refine Af call124 V V ((KY hI) _ _ M.rst (M.nest.trans hnk)) ?_ ?_;rotate_left
 ·intro ch w' hf a ha;exact Ap (A8 ha (M.fail_st V V hf))
 rintro _ w' g;obtain⟨c4,s',rfl,M,H4,_⟩:=M.call g;refine Ad V (Ur _ _ _) V ?_;obtain⟨w',hst,M⟩:=M.store (off:=23) 4 H4 Ew rfl rfl;refine An V V hst ?_;refine Aj [(0,ptr p),(2,ptr w.heap.size)] ⟨V,V,trivial⟩ ?_;obtain⟨hl,h1,l,hchk,hrep⟩:=M.rep_st (sn:=.param) rfl;have B:=M.blk.all;obtain⟨w',hst,M,_⟩:=M.self (N:=24) Hu hl h1;exact Ac (Ab (Ae V (AS Hu hl B) V (An V V hst (Ag (AJ λa ha=>Em V ha V (AS Hu hl M.blk.all) (M.good_st V V))))))
theorem c60(hX:Be n0 p 120 (.st .expr) k)(hI:Be n0 p 125 (.st .instr) k):Be n0 p 60 (.st .template) k:=by
 intro s w hs hnk;obtain⟨Z,hz,hzl⟩:∃Z:List Value,(∀w,(zeroValue 74).run prog w= .ok (.agg Z.toArray) w)/\Z.length=Co [1,1,1,1,1,1,1,1,1,1,1,1]:=⟨_,zeroValue74,rfl⟩;refine AE 48 func60 V V V ?_;refine Ac (Ab (Ct (hz _) V (Aj [(0,ptr p),(2,ptr w.heap.size)] ⟨V,V,trivial⟩ ?_)));have M:=MSt.new (tid:=74) (sz:=[1,1,1,1,1,1,1,1,1,1,1,1]) hs hzl;have hcs:w.heap.size<(w.alloc (.cells Z.toArray 74)).heap.size:=by simp
 show W _ _ _ _ _ _ (w.alloc (.cells Z.toArray 74));generalize w.alloc (.cells Z.toArray 74)=w1 at M hcs⊢;refine Ac (Ab ?_);refine Aa V V ?_;refine Aa V V ?_;refine Ba V V V ?_;refine Af call119 V V ((OX hX) _ _ M.rst (M.nest.trans hnk)) ?_ ?_;rotate_left
 ·intro ch w' hf a ha;exact Ap (A8 ha (M.fail_st V V hf))
 rintro _ w' g;obtain⟨c0,s',rfl,M,H0,_⟩:=M.call g;refine Ad V (UY _ _ _) V ?_;obtain⟨w',hst,M⟩:=M.store (off:=0) 0 H0 FP rfl rfl;refine An V V hst ?_;refine Aj [(0,ptr p),(2,ptr w.heap.size)] ⟨V,V,trivial⟩ ?_;refine Ac (Ab ?_);refine Aa V V ?_;refine Af call56 V V (CN _ _ M.rst (M.nest.trans hnk)) ?_ ?_;rotate_left
 ·intro ch w' hf a ha;exact Ap (A8 ha (M.fail_st V V hf))
 rintro _ w' g;obtain⟨c1,s',rfl,M,H1,_⟩:=M.call g;refine Ad V (UZ _ _ _) V ?_;obtain⟨w',hst,M⟩:=M.store (off:=1) 1 H1 AK rfl rfl;refine An V V hst ?_;refine Aj [(0,ptr p),(2,ptr w.heap.size)] ⟨V,V,trivial⟩ ?_;refine Ac (Ab ?_);refine Aa V V ?_;refine Aa V V ?_;refine Ba V V V ?_;refine Af call121 V V ((SF CN) _ _ M.rst (M.nest.trans hnk)) ?_ ?_;rotate_left
 ·intro ch w' hf a ha;exact Ap (A8 ha (M.fail_st V V hf))
 rintro _ w' g;obtain⟨c2,s',rfl,M,H2,_⟩:=M.call g;refine Ad V (Vc _ _ _) V ?_;obtain⟨w',hst,M⟩:=M.store (off:=2) 2 H2 Ei rfl rfl;refine An V V hst ?_;refine Aj [(0,ptr p),(2,ptr w.heap.size)] ⟨V,V,trivial⟩ ?_;refine Ac (Ab ?_);refine Aa V V ?_;refine Af call117 V V (F8 _ _ M.rst (M.nest.trans hnk)) ?_ ?_;rotate_left
 ·intro ch w' hf a ha;exact Ap (A8 ha (M.fail_st V V hf))
 rintro _ w' g;obtain⟨c3,s',rfl,M,H3,_⟩:=M.call g;refine Aa V V ?_;refine Af call56 V V (CN _ _ M.rst (M.nest.trans hnk)) ?_ ?_;rotate_left
 ·intro ch w' hf a ha;exact Ap (A8 ha (M.fail_st V V hf))
 rintro _ w' g;obtain⟨c4,s',rfl,M,H4,_⟩:=M.call g;refine Ad V (Vd _ _ _) V ?_;obtain⟨w',hst,M⟩:=M.store (off:=3) 3 H3 Cm rfl rfl;refine An V V hst ?_;refine Ad V (Ve _ _ _) V ?_;obtain⟨w',hst,M⟩:=M.store (off:=4) 4 H4 AK rfl rfl;refine An V V hst ?_;refine Aj [(0,ptr p),(2,ptr w.heap.size)] ⟨V,V,trivial⟩ ?_;refine Ac (Ab ?_);refine Aa V V ?_;refine Aa V V ?_;refine Ba V V V ?_;refine Af call122 V V ((SG (SH hX hI)) _ _ M.rst (M.nest.trans hnk)) ?_ ?_;rotate_left
 ·intro ch w' hf a ha;exact Ap (A8 ha (M.fail_st V V hf))
 rintro _ w' g;obtain⟨c5,s',rfl,M,H5,_⟩:=M.call g;refine Ad V (Vf _ _ _) V ?_;obtain⟨w',hst,M⟩:=M.store (off:=5) 5 H5 Hx rfl rfl;refine An V V hst ?_;refine Aj [(0,ptr p),(2,ptr w.heap.size)] ⟨V,V,trivial⟩ ?_;refine Ac (Ab ?_);refine Aa V V ?_;refine Aa V V ?_;refine Ba V V V ?_;refine Af call124 V V ((KY hI) _ _ M.rst (M.nest.trans hnk)) ?_ ?_;rotate_left
 ·intro ch w' hf a ha;exact Ap (A8 ha (M.fail_st V V hf))
 rintro _ w' g;obtain⟨c6,s',rfl,M,H6,_⟩:=M.call g;refine Ad V (Vg _ _ _) V ?_;obtain⟨w',hst,M⟩:=M.store (off:=6) 6 H6 Ew rfl rfl;refine An V V hst ?_;refine Aj [(0,ptr p),(2,ptr w.heap.size)] ⟨V,V,trivial⟩ ?_;refine Ac (Ab ?_);refine Aa V V ?_;refine Af call56 V V (CN _ _ M.rst (M.nest.trans hnk)) ?_ ?_;rotate_left
 ·intro ch w' hf a ha;exact Ap (A8 ha (M.fail_st V V hf))
 rintro _ w' g;obtain⟨c7,s',rfl,M,H7,_⟩:=M.call g;refine Aa V V ?_;refine Af call118 V V (Dv _ _ M.rst (M.nest.trans hnk)) ?_ ?_;rotate_left
 ·intro ch w' hf a ha;exact Ap (A8 ha (M.fail_st V V hf))
 rintro _ w' g;obtain⟨c8,s',rfl,M,H8,_⟩:=M.call g;refine Aa V V ?_;refine Af call118 V V (Dv _ _ M.rst (M.nest.trans hnk)) ?_ ?_;rotate_left
 ·intro ch w' hf a ha;exact Ap (A8 ha (M.fail_st V V hf))
 rintro _ w' g;obtain⟨c9,s',rfl,M,H9,_⟩:=M.call g;refine Aa V V ?_;refine Af call118 V V (Dv _ _ M.rst (M.nest.trans hnk)) ?_ ?_;rotate_left
 ·intro ch w' hf a ha;exact Ap (A8 ha (M.fail_st V V hf))
 rintro _ w' g;obtain⟨c10,s',rfl,M,H10,_⟩:=M.call g;refine Aa V V ?_;refine Af call118 V V (Dv _ _ M.rst (M.nest.trans hnk)) ?_ ?_;rotate_left
 ·intro ch w' hf a ha;exact Ap (A8 ha (M.fail_st V V hf))
 rintro _ w' g;obtain⟨c11,s',rfl,M,H11,_⟩:=M.call g;refine Ad V (Vh _ _ _) V ?_;obtain⟨w',hst,M⟩:=M.store (off:=7) 7 H7 AK rfl rfl;refine An V V hst ?_;refine Ad V (Vi _ _ _) V ?_;obtain⟨w',hst,M⟩:=M.store (off:=8) 8 H8 AQ rfl rfl;refine An V V hst ?_;refine Ad V (Vj _ _ _) V ?_;obtain⟨w',hst,M⟩:=M.store (off:=9) 9 H9 AQ rfl rfl;refine An V V hst ?_;refine Ad V (Va _ _ _) V ?_;obtain⟨w',hst,M⟩:=M.store (off:=10) 10 H10 AQ rfl rfl;refine An V V hst ?_;refine Ad V (Vb _ _ _) V ?_;obtain⟨w',hst,M⟩:=M.store (off:=11) 11 H11 AQ rfl rfl;refine An V V hst ?_;refine Aj [(0,ptr p),(2,ptr w.heap.size)] ⟨V,V,trivial⟩ ?_;obtain⟨hl,h1,l,hchk,hrep⟩:=M.rep_st (sn:=.template) rfl;have B:=M.blk.all;obtain⟨w',hst,M,_⟩:=M.self (N:=12) Jp hl h1;exact Ac (Ab (Ae V (AS Jp hl B) V (An V V hst (Ag (AJ λa ha=>Em V ha V (AS Jp hl M.blk.all) (M.good_st V V))))))
theorem c62(hX:Be n0 p 120 (.st .expr) k)(hI:Be n0 p 125 (.st .instr) k):Be n0 p 62 (.st .dfn) k:=by
 intro s w hs hnk;obtain⟨Z,hz,hzl⟩:∃Z:List Value,(∀w,(zeroValue 140).run prog w= .ok (.agg Z.toArray) w)/\Z.length=Co [1,1,5,16,1,1,1,1]:=⟨_,zeroValue140,rfl⟩;refine AE 30 func62 V V V ?_;refine Ac (Ab (Ct (hz _) V (Aj [(0,ptr p),(2,ptr w.heap.size)] ⟨V,V,trivial⟩ ?_)));have M:=MSt.new (tid:=140) (sz:=[1,1,5,16,1,1,1,1]) hs hzl;have hcs:w.heap.size<(w.alloc (.cells Z.toArray 140)).heap.size:=by simp
 show W _ _ _ _ _ _ (w.alloc (.cells Z.toArray 140));generalize w.alloc (.cells Z.toArray 140)=w1 at M hcs⊢;refine Ac (Ab ?_);refine Aa V V ?_;refine Af call56 V V (CN _ _ M.rst (M.nest.trans hnk)) ?_ ?_;rotate_left
 ·intro ch w' hf a ha;exact Ap (A8 ha (M.fail_st V V hf))
 rintro _ w' g;obtain⟨c0,s',rfl,M,H0,_⟩:=M.call g;refine Ad V (TH _ _ _) V ?_;obtain⟨w',hst,M⟩:=M.store (off:=0) 0 H0 AK rfl rfl;refine An V V hst ?_;refine Aj [(0,ptr p),(2,ptr w.heap.size)] ⟨V,V,trivial⟩ ?_;refine Ac (Ab ?_);refine Aa V V ?_;refine Aa V V ?_;refine Ba V V V ?_;refine Af call122 V V ((SG (SH hX hI)) _ _ M.rst (M.nest.trans hnk)) ?_ ?_;rotate_left
 ·intro ch w' hf a ha;exact Ap (A8 ha (M.fail_st V V hf))
 rintro _ w' g;obtain⟨c1,s',rfl,M,H1,_⟩:=M.call g;refine Ad V (TJ _ _ _) V ?_;obtain⟨w',hst,M⟩:=M.store (off:=1) 1 H1 Hx rfl rfl;refine An V V hst ?_;refine Aj [(0,ptr p),(2,ptr w.heap.size)] ⟨V,V,trivial⟩ ?_;refine Ac (Ab ?_);refine Aa V V ?_;refine Af call126 V V (M_ _ _ M.rst (M.nest.trans hnk)) ?_ ?_;rotate_left
 ·intro ch w' hf a ha;exact Ap (A8 ha (M.fail_st V V hf))
 rintro _ w' g;obtain⟨c2,s',rfl,M,H2,_⟩:=M.call g;refine Aa V V ?_;refine Af call120 V V (hX _ _ M.rst (M.nest.trans hnk)) ?_ ?_;rotate_left
 ·intro ch w' hf a ha;exact Ap (A8 ha (M.fail_st V V hf))
 rintro _ w' g;obtain⟨c3,s',rfl,M,H3,_⟩:=M.call g;refine Ad V (TK _ _ _) V ?_;obtain⟨w',hst,M⟩:=M.store (off:=2) 2 H2 Ex rfl rfl;refine An V V hst ?_;refine Ad V (TL _ _ _) V ?_;obtain⟨w',hst,M⟩:=M.store (off:=7) 3 H3 Cr rfl rfl;refine An V V hst ?_;refine Aj [(0,ptr p),(2,ptr w.heap.size)] ⟨V,V,trivial⟩ ?_;refine Ac (Ab ?_);refine Aa V V ?_;refine Af call56 V V (CN _ _ M.rst (M.nest.trans hnk)) ?_ ?_;rotate_left
 ·intro ch w' hf a ha;exact Ap (A8 ha (M.fail_st V V hf))
 rintro _ w' g;obtain⟨c4,s',rfl,M,H4,_⟩:=M.call g;refine Aa V V ?_;refine Af call118 V V (Dv _ _ M.rst (M.nest.trans hnk)) ?_ ?_;rotate_left
 ·intro ch w' hf a ha;exact Ap (A8 ha (M.fail_st V V hf))
 rintro _ w' g;obtain⟨c5,s',rfl,M,H5,_⟩:=M.call g;refine Aa V V ?_;refine Af call118 V V (Dv _ _ M.rst (M.nest.trans hnk)) ?_ ?_;rotate_left
 ·intro ch w' hf a ha;exact Ap (A8 ha (M.fail_st V V hf))
 rintro _ w' g;obtain⟨c6,s',rfl,M,H6,_⟩:=M.call g;refine Aa V V ?_;refine Af call118 V V (Dv _ _ M.rst (M.nest.trans hnk)) ?_ ?_;rotate_left
 ·intro ch w' hf a ha;exact Ap (A8 ha (M.fail_st V V hf))
 rintro _ w' g;obtain⟨c7,s',rfl,M,H7,_⟩:=M.call g;refine Ad V (TM _ _ _) V ?_;obtain⟨w',hst,M⟩:=M.store (off:=23) 4 H4 AK rfl rfl;refine An V V hst ?_;refine Ad V (TN _ _ _) V ?_;obtain⟨w',hst,M⟩:=M.store (off:=24) 5 H5 AQ rfl rfl;refine An V V hst ?_;refine Ad V (TO _ _ _) V ?_;obtain⟨w',hst,M⟩:=M.store (off:=25) 6 H6 AQ rfl rfl;refine An V V hst ?_;refine Ad V (TP _ _ _) V ?_;obtain⟨w',hst,M⟩:=M.store (off:=26) 7 H7 AQ rfl rfl;refine An V V hst ?_;refine Aj [(0,ptr p),(2,ptr w.heap.size)] ⟨V,V,trivial⟩ ?_;obtain⟨hl,h1,l,hchk,hrep⟩:=M.rep_st (sn:=.dfn) rfl;have B:=M.blk.all;obtain⟨w',hst,M,_⟩:=M.self (N:=27) Ji hl h1;exact Ac (Ab (Ae V (AS Ji hl B) V (An V V hst (Ag (AJ λa ha=>Em V ha V (AS Ji hl M.blk.all) (M.good_st V V))))))
theorem c64(hX:Be n0 p 120 (.st .expr) k)(hI:Be n0 p 125 (.st .instr) k):Be n0 p 64 (.st .global) k:=by
 intro s w hs hnk;obtain⟨Z,hz,hzl⟩:∃Z:List Value,(∀w,(zeroValue 144).run prog w= .ok (.agg Z.toArray) w)/\Z.length=Co [1,1,5,1,16,1,1,1,1,1]:=⟨_,zeroValue144,rfl⟩;refine AE 36 func64 V V V ?_;refine Ac (Ab (Ct (hz _) V (Aj [(0,ptr p),(2,ptr w.heap.size)] ⟨V,V,trivial⟩ ?_)));have M:=MSt.new (tid:=144) (sz:=[1,1,5,1,16,1,1,1,1,1]) hs hzl;have hcs:w.heap.size<(w.alloc (.cells Z.toArray 144)).heap.size:=by simp
 show W _ _ _ _ _ _ (w.alloc (.cells Z.toArray 144));generalize w.alloc (.cells Z.toArray 144)=w1 at M hcs⊢;refine Ac (Ab ?_);refine Aa V V ?_;refine Af call56 V V (CN _ _ M.rst (M.nest.trans hnk)) ?_ ?_;rotate_left
 ·intro ch w' hf a ha;exact Ap (A8 ha (M.fail_st V V hf))
 rintro _ w' g;obtain⟨c0,s',rfl,M,H0,_⟩:=M.call g;refine Aa V V ?_;refine Af call117 V V (F8 _ _ M.rst (M.nest.trans hnk)) ?_ ?_;rotate_left
 ·intro ch w' hf a ha;exact Ap (A8 ha (M.fail_st V V hf))
 rintro _ w' g;obtain⟨c1,s',rfl,M,H1,_⟩:=M.call g;refine Aa V V ?_;refine Af call126 V V (M_ _ _ M.rst (M.nest.trans hnk)) ?_ ?_;rotate_left
 ·intro ch w' hf a ha;exact Ap (A8 ha (M.fail_st V V hf))
 rintro _ w' g;obtain⟨c2,s',rfl,M,H2,_⟩:=M.call g;refine Aa V V ?_;refine Af call117 V V (F8 _ _ M.rst (M.nest.trans hnk)) ?_ ?_;rotate_left
 ·intro ch w' hf a ha;exact Ap (A8 ha (M.fail_st V V hf))
 rintro _ w' g;obtain⟨c3,s',rfl,M,H3,_⟩:=M.call g;refine Aa V V ?_;refine Af call120 V V (hX _ _ M.rst (M.nest.trans hnk)) ?_ ?_;rotate_left
 ·intro ch w' hf a ha;exact Ap (A8 ha (M.fail_st V V hf))
 rintro _ w' g;obtain⟨c4,s',rfl,M,H4,_⟩:=M.call g;refine Ad V (TQ _ _ _) V ?_;obtain⟨w',hst,M⟩:=M.store (off:=0) 0 H0 AK rfl rfl;refine An V V hst ?_;refine Ad V (TR _ _ _) V ?_;obtain⟨w',hst,M⟩:=M.store (off:=1) 1 H1 Cm rfl rfl;refine An V V hst ?_;refine Ad V (TS _ _ _) V ?_;obtain⟨w',hst,M⟩:=M.store (off:=2) 2 H2 Ex rfl rfl;refine An V V hst ?_;refine Ad V (TT _ _ _) V ?_;obtain⟨w',hst,M⟩:=M.store (off:=7) 3 H3 Cm rfl rfl;refine An V V hst ?_;refine Ad V (TU _ _ _) V ?_;obtain⟨w',hst,M⟩:=M.store (off:=8) 4 H4 Cr rfl rfl;refine An V V hst ?_;refine Aj [(0,ptr p),(2,ptr w.heap.size)] ⟨V,V,trivial⟩ ?_;refine Ac (Ab ?_);refine Aa V V ?_;refine Aa V V ?_;refine Ba V V V ?_;refine Af call124 V V ((KY hI) _ _ M.rst (M.nest.trans hnk)) ?_ ?_;rotate_left
 ·intro ch w' hf a ha;exact Ap (A8 ha (M.fail_st V V hf))
 rintro _ w' g;obtain⟨c5,s',rfl,M,H5,_⟩:=M.call g;refine Ad V (TV _ _ _) V ?_;obtain⟨w',hst,M⟩:=M.store (off:=24) 5 H5 Ew rfl rfl;refine An V V hst ?_;refine Aj [(0,ptr p),(2,ptr w.heap.size)] ⟨V,V,trivial⟩ ?_;refine Ac (Ab ?_);refine Aa V V ?_;refine Af call56 V V (CN _ _ M.rst (M.nest.trans hnk)) ?_ ?_;rotate_left
 ·intro ch w' hf a ha;exact Ap (A8 ha (M.fail_st V V hf))
 rintro _ w' g;obtain⟨c6,s',rfl,M,H6,_⟩:=M.call g;refine Aa V V ?_;refine Af call118 V V (Dv _ _ M.rst (M.nest.trans hnk)) ?_ ?_;rotate_left
 ·intro ch w' hf a ha;exact Ap (A8 ha (M.fail_st V V hf))
 rintro _ w' g;obtain⟨c7,s',rfl,M,H7,_⟩:=M.call g;refine Aa V V ?_;refine Af call118 V V (Dv _ _ M.rst (M.nest.trans hnk)) ?_ ?_;rotate_left
 ·intro ch w' hf a ha;exact Ap (A8 ha (M.fail_st V V hf))
 rintro _ w' g;obtain⟨c8,s',rfl,M,H8,_⟩:=M.call g;refine Aa V V ?_;refine Af call118 V V (Dv _ _ M.rst (M.nest.trans hnk)) ?_ ?_;rotate_left
 ·intro ch w' hf a ha;exact Ap (A8 ha (M.fail_st V V hf))
 rintro _ w' g;obtain⟨c9,s',rfl,M,H9,_⟩:=M.call g;refine Ad V (TW _ _ _) V ?_;obtain⟨w',hst,M⟩:=M.store (off:=25) 6 H6 AK rfl rfl;refine An V V hst ?_;refine Ad V (TX _ _ _) V ?_;obtain⟨w',hst,M⟩:=M.store (off:=26) 7 H7 AQ rfl rfl;refine An V V hst ?_;refine Ad V (TY _ _ _) V ?_;obtain⟨w',hst,M⟩:=M.store (off:=27) 8 H8 AQ rfl rfl;refine An V V hst ?_;refine Ad V (TZ _ _ _) V ?_;obtain⟨w',hst,M⟩:=M.store (off:=28) 9 H9 AQ rfl rfl;refine An V V hst ?_;refine Aj [(0,ptr p),(2,ptr w.heap.size)] ⟨V,V,trivial⟩ ?_;obtain⟨hl,h1,l,hchk,hrep⟩:=M.rep_st (sn:=.global) rfl;have B:=M.blk.all;obtain⟨w',hst,M,_⟩:=M.self (N:=29) Jj hl h1;exact Ac (Ab (Ae V (AS Jj hl B) V (An V V hst (Ag (AJ λa ha=>Em V ha V (AS Jj hl M.blk.all) (M.good_st V V))))))
def MO:List Ty:=[.int,.str,.str,.int,.int,.str,.int,.st .test,.st .type,.list .str,.list (.st .expr)]
theorem YB:∀(pre post:List Ty) (l:List T) (s s':RS),Bn l (pre++ .st .atom::post) s=some s'->∃l',Bn l' (pre++ .int:: .str::post) s=some s'
 |[],post,[],s,s',h=>by simp only[Dh,Bn]at h;cases h
 |[],post,t::l,s,s',h=>by
  simp only[Dh,Bn,BV]at h;obtain⟨u,hu,h⟩:=h;cases t<;>simp only[AU]at hu<;>try cases hu
  split at hu
  ·have hd:SN.atom.deep=false:=rfl;rw[hd]at hu;simp only[SN.fields]at hu;rename_i sn lt _;match lt,hu with
   |[a,b],hu=>
    simp only[Bn,BV]at hu;obtain⟨v,hv,u',hu',hu⟩:=hu;simp only[Option.some.injEq]at hu;subst hu;exact⟨a::b::l,by simp only[Dh,Bn,hv,hu',Cw];exact h⟩
   |[],hu=>simp only[Bn]at hu;cases hu
   |[a],hu=>
    simp only[Bn,BV]at hu;obtain⟨v,hv,hu⟩:=hu;cases hu
   |a::b::x::y,hu=>
    simp only[Bn,BV]at hu;obtain⟨v,hv,u',hu',hu⟩:=hu;cases hu
  ·cases hu
 |f::pre,post,[],s,s',h=>by simp only[CL,Bn]at h;cases h
 |f::pre,post,t::l,s,s',h=>by
  simp only[CL,Bn,BV]at h;obtain⟨u,hu,h⟩:=h;obtain⟨l',hl'⟩:=YB pre post l u s' h;exact⟨t::l',by simp only[CL,Bn,hu,Cw];exact hl'⟩
variable{s:RS}{f:Ty}{fs:List Ty}
theorem GK{gs:List Ty}{l:List T}{s1:RS}(hf:MO=fs++f::gs)(h:Bn l fs {s with nest:=s.nest+1}=some s1)(hb:E1 f s1):E1 (.st .expr) s:=by
 have key:∀l',Bn l' SN.expr.fields {s with nest:=s.nest+1}=none:=by
  intro l';cases hc:Bn l' SN.expr.fields {s with nest:=s.nest+1}with
  |none=>rfl
  |some u=>
   obtain⟨l'',h2⟩:=YB [.int,.str,.str,.int] [.int,.st .test,.st .type,.list .str,.list (.st .expr)] l' _ u hc;have h3:=Pe l fs f gs _ s1 h hb l'';rw[<-hf]at h3;have h4:Bn l'' MO {s with nest:=s.nest+1}=some u:=h2;rw[h3]at h4;cases h4
 intro t;cases t<;>simp only[AU];split
 ·have hd:SN.expr.deep=true:=rfl;rw[hd];simp only[key,Option.map_none,ite_self]
 ·rfl
variable{w:World}
theorem RepC.cons_inv{S:Nat->Prop}:∀{l:List T}{cs:List (List Value)},RepC w S l (f::fs) cs->∃t l' c cs',l=t::l'/\cs=c::cs'/\Rep w S t f c/\RepC w S l' fs cs'
 |t::l,c::cs,h=>⟨t,l,c,cs,rfl,rfl,h.1,h.2⟩
 |[],_,h=>h.elim
 |_::_,[],h=>h.elim
theorem RepC.nil_inv{S:Nat->Prop}:∀{l:List T}{cs:List (List Value)},RepC w S l [] cs->l=[]/\cs=[]
 |[],[],_=>⟨rfl,rfl⟩
 |[],_::_,h=>h.elim
 |_::_,_,h=>h.elim
theorem MSt.rep_expr{c tid:Nat}{sz:List Nat}{wz w0:World}{s0:RS}{cells chunks:List (List Value)}(h:MSt n0 p c tid sz MO wz w0 s0 cells chunks s w)(hc:chunks=cells):
 chunks.flatten.length=SN.expr.size/\(∀x∈chunks.flatten,x.oneCell'=true)/\∃l,Bn l SN.expr.fields s0=some s/\Rep w (λb=>w0.heap.size<=b) (.agg .expr l) (.st .expr) chunks.flatten:=by
 subst hc;obtain⟨l,hr,hchk⟩:=h.rep;have hone:=hr.one;replace hr:RepC w (λb=>w0.heap.size<=b) l MO chunks:=RepC.agree (λb hb hl=>⟨hb.1,hl,rfl⟩) hr;clear h;obtain⟨t0,l,c0,chunks,rfl,rfl,r0,hr⟩:=hr.cons_inv;obtain⟨t1,l,c1,chunks,rfl,rfl,r1,hr⟩:=hr.cons_inv;obtain⟨t2,l,c2,chunks,rfl,rfl,r2,hr⟩:=hr.cons_inv;obtain⟨t3,l,c3,chunks,rfl,rfl,r3,hr⟩:=hr.cons_inv;obtain⟨t4,l,c4,chunks,rfl,rfl,r4,hr⟩:=hr.cons_inv;obtain⟨t5,l,c5,chunks,rfl,rfl,r5,hr⟩:=hr.cons_inv;obtain⟨t6,l,c6,chunks,rfl,rfl,r6,hr⟩:=hr.cons_inv;obtain⟨t7,l,c7,chunks,rfl,rfl,r7,hr⟩:=hr.cons_inv;obtain⟨t8,l,c8,chunks,rfl,rfl,r8,hr⟩:=hr.cons_inv;obtain⟨t9,l,c9,chunks,rfl,rfl,r9,hr⟩:=hr.cons_inv;obtain⟨t10,l,c10,chunks,rfl,rfl,r10,hr⟩:=hr.cons_inv;obtain⟨rfl,rfl⟩:=hr.nil_inv;have ratom:Rep w (λb=>w0.heap.size<=b) (.agg .atom [t4,t5]) (.st .atom) (c4++c5):=by
  have ha:RepC w (λb=>w0.heap.size<=b) [t4,t5] SN.atom.fields [c4,c5]:=⟨r4,r5,trivial⟩;have hl:[c4,c5].flatten.length=SN.atom.size:=by rw[NY,ha.size,PP]
  have hF:=OD [] ha;simp only[E3,Rs,FW,Dh,DS]at hl hF;simp only[Rep];exact⟨trivial,hl,hF⟩
 have hall:RepC w (λb=>w0.heap.size<=b) [t0,t1,t2,t3,.agg .atom [t4,t5],t6,t7,t8,t9,t10] SN.expr.fields [c0,c1,c2,c3,c4++c5,c6,c7,c8,c9,c10]:=
  ⟨r0,r1,r2,r3,ratom,r6,r7,r8,r9,r10,trivial⟩
 have hfl:[c0,c1,c2,c3,c4,c5,c6,c7,c8,c9,c10].flatten=[c0,c1,c2,c3,c4++c5,c6,c7,c8,c9,c10].flatten:=by simp
 refine⟨by rw[hfl,NY,hall.size,PP],hone,[t0,t1,t2,t3,.agg .atom [t4,t5],t6,t7,t8,t9,t10],?_,?_⟩
 ·simp only[MO,Bn,BV]at hchk;obtain⟨u0,k0,u1,k1,u2,k2,u3,k3,u4,k4,u5,k5,u6,k6,u7,k7,u8,k8,u9,k9,u10,k10,k11⟩:=hchk;have hat:AU (.agg .atom [t4,t5]) (.st .atom) u3=some u5:=Go.Sx.good_st rfl (by simp only[SN.fields,Bn,k4,k5,Cw]);simp only[SN.fields,Bn,k0,k1,k2,k3,hat,k6,k7,k8,k9,k10,Cw];exact k11
 ·rw[hfl];have hF:=OD [] hall;simp only[Rep];exact⟨trivial,by rw[NY,hall.size,PP],hF⟩
theorem Yo(hk:k<=1000)(ih:¬1000<k+1->Be n0 p 120 (.st .expr) (k+1)):Be n0 p 120 (.st .expr) k:=by
 intro s w hs hnk;obtain⟨Z,hz,hzl⟩:∃Z:List Value,(∀w,(zeroValue 66).run prog w= .ok (.agg Z.toArray) w)/\Z.length=Co [1,1,1,1,1,1,1,2,5,1,1]:=⟨_,zeroValue66,rfl⟩;refine IU 45 func120 V V V ?_;refine Ac (Ab (Ct (hz _) V (Aj [(0,ptr p),(2,ptr w.heap.size)] ⟨V,V,trivial⟩ ?_)));have M:=MSt.new (tid:=66) (sz:=[1,1,1,1,1,1,1,2,5,1,1]) hs hzl;have hcs:w.heap.size<(w.alloc (.cells Z.toArray 66)).heap.size:=by simp
 show W _ _ _ _ _ _ (w.alloc (.cells Z.toArray 66));generalize w.alloc (.cells Z.toArray 66)=w1 at M hcs⊢;refine Ac (Ab (Aa V V (Af call55 V V (SR M.rst (by omega)) ?_ ?_)));rotate_left
 ·rintro ch w2 ⟨rfl,hm,f2,h2⟩ a ha;exact Ap (L6 ha ⟨rfl,Sw V hm,_,h2,M.frame f2,Mk _⟩)
 rintro _ w2 ⟨hno,bx,rfl,hbx,hbx2,f2,h2⟩;have hno0:=hno;rw[hnk]at hno0;have hbp:bx≠p:=λe=>by have:=hs.lp;have:=hs.ln;omega
 have hbc:bx≠w.heap.size:=by omega
 replace M:=M.deep hzl f2 h2;refine IP V (Aj [(0,ptr p),(2,ptr w.heap.size)] ⟨V,V,trivial⟩ ?_);show W _ _ _ _ [MF bx] _ _;refine Ac (Ab ?_);refine Aa V V ?_;refine Af call118 V V (Dv _ _ M.rst (M.nest.trans (congrArg (·+1) hnk))) ?_ ?_;rotate_left
 ·intro ch w' hf a ha;exact Ap (Bt ha (M.fail_deep hbx hbp hbc (λl h hb=>GK V h hb) hf))
 rintro _ w' g;obtain⟨c0,s',rfl,M,H0,_⟩:=M.call g;refine Aa V V ?_;refine Af call56 V V (CN _ _ M.rst (M.nest.trans (congrArg (·+1) hnk))) ?_ ?_;rotate_left
 ·intro ch w' hf a ha;exact Ap (Bt ha (M.fail_deep hbx hbp hbc (λl h hb=>GK V h hb) hf))
 rintro _ w' g;obtain⟨c1,s',rfl,M,H1,_⟩:=M.call g;refine Aa V V ?_;refine Af call56 V V (CN _ _ M.rst (M.nest.trans (congrArg (·+1) hnk))) ?_ ?_;rotate_left
 ·intro ch w' hf a ha;exact Ap (Bt ha (M.fail_deep hbx hbp hbc (λl h hb=>GK V h hb) hf))
 rintro _ w' g;obtain⟨c2,s',rfl,M,H2,_⟩:=M.call g;refine Aa V V ?_;refine Af call118 V V (Dv _ _ M.rst (M.nest.trans (congrArg (·+1) hnk))) ?_ ?_;rotate_left
 ·intro ch w' hf a ha;exact Ap (Bt ha (M.fail_deep hbx hbp hbc (λl h hb=>GK V h hb) hf))
 rintro _ w' g;obtain⟨c3,s',rfl,M,H3,_⟩:=M.call g;refine Ad V (UA _ _ _) V ?_;obtain⟨w',hst,M⟩:=M.store (off:=0) 0 H0 AQ rfl rfl;refine An V V hst ?_;refine Ad V (UB _ _ _) V ?_;obtain⟨w',hst,M⟩:=M.store (off:=1) 1 H1 AK rfl rfl;refine An V V hst ?_;refine Ad V (UC _ _ _) V ?_;obtain⟨w',hst,M⟩:=M.store (off:=2) 2 H2 AK rfl rfl;refine An V V hst ?_;refine Ad V (UD _ _ _) V ?_;obtain⟨w',hst,M⟩:=M.store (off:=3) 3 H3 AQ rfl rfl;refine An V V hst ?_;refine Aj [(0,ptr p),(2,ptr w.heap.size)] ⟨V,V,trivial⟩ ?_;refine Ac (Ab ?_);refine Aa V V ?_;refine Af call118 V V (Dv _ _ M.rst (M.nest.trans (congrArg (·+1) hnk))) ?_ ?_;rotate_left
 ·intro ch w' hf a ha;exact Ap (Bt ha (M.fail_deep hbx hbp hbc (λl h hb=>GK V h hb) hf))
 rintro _ w' g;obtain⟨c4,s',rfl,M,H4,_⟩:=M.call g;refine Aa V V ?_;refine Af call56 V V (CN _ _ M.rst (M.nest.trans (congrArg (·+1) hnk))) ?_ ?_;rotate_left
 ·intro ch w' hf a ha;exact Ap (Bt ha (M.fail_deep hbx hbp hbc (λl h hb=>GK V h hb) hf))
 rintro _ w' g;obtain⟨c5,s',rfl,M,H5,_⟩:=M.call g;refine Ad V (MY _ _ _) V ?_;refine Ad V (U5 _ _ _) V ?_;obtain⟨w',hst,M⟩:=M.store (off:=4) 4 H4 AQ rfl rfl;refine An V V hst ?_;refine Ad V (MY _ _ _) V ?_;refine Ad V (U6 _ _ _) V ?_;obtain⟨w',hst,M⟩:=M.store (off:=5) 5 H5 AK rfl rfl;refine An V V hst ?_;refine Aj [(0,ptr p),(2,ptr w.heap.size)] ⟨V,V,trivial⟩ ?_;refine Ac (Ab ?_);refine Aa V V ?_;refine Af call118 V V (Dv _ _ M.rst (M.nest.trans (congrArg (·+1) hnk))) ?_ ?_;rotate_left
 ·intro ch w' hf a ha;exact Ap (Bt ha (M.fail_deep hbx hbp hbc (λl h hb=>GK V h hb) hf))
 rintro _ w' g;obtain⟨c6,s',rfl,M,H6,_⟩:=M.call g;refine Aa V V ?_;refine Af call189 V V (Ys _ _ M.rst (M.nest.trans (congrArg (·+1) hnk))) ?_ ?_;rotate_left
 ·intro ch w' hf a ha;exact Ap (Bt ha (M.fail_deep hbx hbp hbc (λl h hb=>GK V h hb) hf))
 rintro _ w' g;obtain⟨c7,s',rfl,M,H7,_⟩:=M.call g;refine Aa V V ?_;refine Af call126 V V (M_ _ _ M.rst (M.nest.trans (congrArg (·+1) hnk))) ?_ ?_;rotate_left
 ·intro ch w' hf a ha;exact Ap (Bt ha (M.fail_deep hbx hbp hbc (λl h hb=>GK V h hb) hf))
 rintro _ w' g;obtain⟨c8,s',rfl,M,H8,_⟩:=M.call g;refine Ad V (UE _ _ _) V ?_;obtain⟨w',hst,M⟩:=M.store (off:=6) 6 H6 AQ rfl rfl;refine An V V hst ?_;refine Ad V (UF _ _ _) V ?_;obtain⟨w',hst,M⟩:=M.store (off:=7) 7 H7 Is rfl rfl;refine An V V hst ?_;refine Ad V (UG _ _ _) V ?_;obtain⟨w',hst,M⟩:=M.store (off:=9) 8 H8 Ex rfl rfl;refine An V V hst ?_;refine Aj [(0,ptr p),(2,ptr w.heap.size)] ⟨V,V,trivial⟩ ?_;refine Ac (Ab ?_);refine Aa V V ?_;refine Aa V V ?_;refine Ba V V V ?_;refine Af call121 V V ((SF CN) _ _ M.rst (M.nest.trans (congrArg (·+1) hnk))) ?_ ?_;rotate_left
 ·intro ch w' hf a ha;exact Ap (Bt ha (M.fail_deep hbx hbp hbc (λl h hb=>GK V h hb) hf))
 rintro _ w' g;obtain⟨c9,s',rfl,M,H9,_⟩:=M.call g;refine Ad V (UH _ _ _) V ?_;obtain⟨w',hst,M⟩:=M.store (off:=14) 9 H9 Ei rfl rfl;refine An V V hst ?_;refine Aj [(0,ptr p),(2,ptr w.heap.size)] ⟨V,V,trivial⟩ ?_;refine Ac (Ab ?_);refine Aa V V ?_;refine Aa V V ?_;refine Ba V V V ?_;refine Af call119 V V ((OX (ih hno0)) _ _ M.rst (M.nest.trans (congrArg (·+1) hnk))) ?_ ?_;rotate_left
 ·intro ch w' hf a ha;exact Ap (Bt ha (M.fail_deep hbx hbp hbc (λl h hb=>GK V h hb) hf))
 rintro _ w' g;obtain⟨c10,s',rfl,M,H10,_⟩:=M.call g;refine Ad V (UI _ _ _) V ?_;obtain⟨w',hst,M⟩:=M.store (off:=15) 10 H10 FP rfl rfl;refine An V V hst ?_;refine Aj [(0,ptr p),(2,ptr w.heap.size)] ⟨V,V,trivial⟩ ?_;obtain⟨hl,h1,l,hchk,hrep⟩:=M.rep_expr rfl;have B:=M.blk.all;obtain⟨w',hst,M2,hkeep⟩:=M.self (N:=16) Cr hl h1;have hrep2:=hkeep _ _ _ _ hrep;exact Ac (Ab (Ae V (AS Cr hl B) V (An V V hst (Ag (AJ λa ha=>M2.good_deep hbx hbp hbc V hno Cr hl hchk hrep2 V ha V)))))
theorem G1:∀k,k<=1000->Be n0 p 120 (.st .expr) k:=by
 have key:∀j k,k<=1000->1000-k<=j->Be n0 p 120 (.st .expr) k:=by
  intro j;induction j with
  |zero=>intro k hk hj;exact Yo hk (λh=>absurd h (by omega))
  |succ j ihj=>intro k hk hj;exact Yo hk (λh=>ihj (k+1) (by omega) (by omega))
 exactλk hk=>key _ k hk (Ay _)
theorem Yp(hk:k<=1000)(ih:¬1000<k+1->Be n0 p 125 (.st .instr) (k+1)):Be n0 p 125 (.st .instr) k:=by
 intro s w hs hnk;obtain⟨Z,hz,hzl⟩:∃Z:List Value,(∀w,(zeroValue 72).run prog w= .ok (.agg Z.toArray) w)/\Z.length=Co [1,1,1,1,1,1,16,16,5,1,1,1,1,1,1,1,1]:=⟨_,zeroValue72,rfl⟩;refine IU 73 func125 V V V ?_;refine Ac (Ab (Ct (hz _) V (Aj [(0,ptr p),(2,ptr w.heap.size)] ⟨V,V,trivial⟩ ?_)));have M:=MSt.new (tid:=72) (sz:=[1,1,1,1,1,1,16,16,5,1,1,1,1,1,1,1,1]) hs hzl;have hcs:w.heap.size<(w.alloc (.cells Z.toArray 72)).heap.size:=by simp
 show W _ _ _ _ _ _ (w.alloc (.cells Z.toArray 72));generalize w.alloc (.cells Z.toArray 72)=w1 at M hcs⊢;refine Ac (Ab (Aa V V (Af call55 V V (SR M.rst (by omega)) ?_ ?_)));rotate_left
 ·rintro ch w2 ⟨rfl,hm,f2,h2⟩ a ha;exact Ap (L6 ha ⟨rfl,Sw V hm,_,h2,M.frame f2,Mk _⟩)
 rintro _ w2 ⟨hno,bx,rfl,hbx,hbx2,f2,h2⟩;have hno0:=hno;rw[hnk]at hno0;have hbp:bx≠p:=λe=>by have:=hs.lp;have:=hs.ln;omega
 have hbc:bx≠w.heap.size:=by omega
 replace M:=M.deep hzl f2 h2;refine IP V (Aj [(0,ptr p),(2,ptr w.heap.size)] ⟨V,V,trivial⟩ ?_);show W _ _ _ _ [MF bx] _ _;refine Ac (Ab ?_);refine Aa V V ?_;refine Af call118 V V (Dv _ _ M.rst (M.nest.trans (congrArg (·+1) hnk))) ?_ ?_;rotate_left
 ·intro ch w' hf a ha;exact Ap (Bt ha (M.fail_deep hbx hbp hbc (λl h hb=>Dk (l:=l) V V h hb) hf))
 rintro _ w' g;obtain⟨c0,s',rfl,M,H0,_⟩:=M.call g;refine Aa V V ?_;refine Af call56 V V (CN _ _ M.rst (M.nest.trans (congrArg (·+1) hnk))) ?_ ?_;rotate_left
 ·intro ch w' hf a ha;exact Ap (Bt ha (M.fail_deep hbx hbp hbc (λl h hb=>Dk (l:=l) V V h hb) hf))
 rintro _ w' g;obtain⟨c1,s',rfl,M,H1,_⟩:=M.call g;refine Aa V V ?_;refine Af call56 V V (CN _ _ M.rst (M.nest.trans (congrArg (·+1) hnk))) ?_ ?_;rotate_left
 ·intro ch w' hf a ha;exact Ap (Bt ha (M.fail_deep hbx hbp hbc (λl h hb=>Dk (l:=l) V V h hb) hf))
 rintro _ w' g;obtain⟨c2,s',rfl,M,H2,_⟩:=M.call g;refine Ad V (UJ _ _ _) V ?_;obtain⟨w',hst,M⟩:=M.store (off:=0) 0 H0 AQ rfl rfl;refine An V V hst ?_;refine Ad V (UK _ _ _) V ?_;obtain⟨w',hst,M⟩:=M.store (off:=1) 1 H1 AK rfl rfl;refine An V V hst ?_;refine Ad V (UQ _ _ _) V ?_;obtain⟨w',hst,M⟩:=M.store (off:=2) 2 H2 AK rfl rfl;refine An V V hst ?_;refine Aj [(0,ptr p),(2,ptr w.heap.size)] ⟨V,V,trivial⟩ ?_;refine Ac (Ab ?_);refine Aa V V ?_;refine Aa V V ?_;refine Ba V V V ?_;refine Af call190 V V ((Yt (Yu (G1 _ (by omega)))) _ _ M.rst (M.nest.trans (congrArg (·+1) hnk))) ?_ ?_;rotate_left
 ·intro ch w' hf a ha;exact Ap (Bt ha (M.fail_deep hbx hbp hbc (λl h hb=>Dk (l:=l) V V h hb) hf))
 rintro _ w' g;obtain⟨c3,s',rfl,M,H3,_⟩:=M.call g;refine Ad V (UR _ _ _) V ?_;obtain⟨w',hst,M⟩:=M.store (off:=3) 3 H3 Kh rfl rfl;refine An V V hst ?_;refine Aj [(0,ptr p),(2,ptr w.heap.size)] ⟨V,V,trivial⟩ ?_;refine Ac (Ab ?_);refine Aa V V ?_;refine Aa V V ?_;refine Ba V V V ?_;refine Af call190 V V ((Yt (Yu (G1 _ (by omega)))) _ _ M.rst (M.nest.trans (congrArg (·+1) hnk))) ?_ ?_;rotate_left
 ·intro ch w' hf a ha;exact Ap (Bt ha (M.fail_deep hbx hbp hbc (λl h hb=>Dk (l:=l) V V h hb) hf))
 rintro _ w' g;obtain⟨c4,s',rfl,M,H4,_⟩:=M.call g;refine Ad V (US _ _ _) V ?_;obtain⟨w',hst,M⟩:=M.store (off:=4) 4 H4 Kh rfl rfl;refine An V V hst ?_;refine Aj [(0,ptr p),(2,ptr w.heap.size)] ⟨V,V,trivial⟩ ?_;refine Ac (Ab ?_);refine Aa V V ?_;refine Af call117 V V (F8 _ _ M.rst (M.nest.trans (congrArg (·+1) hnk))) ?_ ?_;rotate_left
 ·intro ch w' hf a ha;exact Ap (Bt ha (M.fail_deep hbx hbp hbc (λl h hb=>Dk (l:=l) V V h hb) hf))
 rintro _ w' g;obtain⟨c5,s',rfl,M,H5,_⟩:=M.call g;refine Aa V V ?_;refine Af call120 V V ((G1 _ (by omega)) _ _ M.rst (M.nest.trans (congrArg (·+1) hnk))) ?_ ?_;rotate_left
 ·intro ch w' hf a ha;exact Ap (Bt ha (M.fail_deep hbx hbp hbc (λl h hb=>Dk (l:=l) V V h hb) hf))
 rintro _ w' g;obtain⟨c6,s',rfl,M,H6,_⟩:=M.call g;refine Aa V V ?_;refine Af call120 V V ((G1 _ (by omega)) _ _ M.rst (M.nest.trans (congrArg (·+1) hnk))) ?_ ?_;rotate_left
 ·intro ch w' hf a ha;exact Ap (Bt ha (M.fail_deep hbx hbp hbc (λl h hb=>Dk (l:=l) V V h hb) hf))
 rintro _ w' g;obtain⟨c7,s',rfl,M,H7,_⟩:=M.call g;refine Aa V V ?_;refine Af call126 V V (M_ _ _ M.rst (M.nest.trans (congrArg (·+1) hnk))) ?_ ?_;rotate_left
 ·intro ch w' hf a ha;exact Ap (Bt ha (M.fail_deep hbx hbp hbc (λl h hb=>Dk (l:=l) V V h hb) hf))
 rintro _ w' g;obtain⟨c8,s',rfl,M,H8,_⟩:=M.call g;refine Ad V (UT _ _ _) V ?_;obtain⟨w',hst,M⟩:=M.store (off:=5) 5 H5 Cm rfl rfl;refine An V V hst ?_;refine Ad V (UU _ _ _) V ?_;obtain⟨w',hst,M⟩:=M.store (off:=6) 6 H6 Cr rfl rfl;refine An V V hst ?_;refine Ad V (UV _ _ _) V ?_;obtain⟨w',hst,M⟩:=M.store (off:=22) 7 H7 Cr rfl rfl;refine An V V hst ?_;refine Ad V (UW _ _ _) V ?_;obtain⟨w',hst,M⟩:=M.store (off:=38) 8 H8 Ex rfl rfl;refine An V V hst ?_;refine Aj [(0,ptr p),(2,ptr w.heap.size)] ⟨V,V,trivial⟩ ?_;refine Ac (Ab ?_);refine Aa V V ?_;refine Aa V V ?_;refine Ba V V V ?_;refine Af call192 V V ((Yv (Yw (G1 _ (by omega)))) _ _ M.rst (M.nest.trans (congrArg (·+1) hnk))) ?_ ?_;rotate_left
 ·intro ch w' hf a ha;exact Ap (Bt ha (M.fail_deep hbx hbp hbc (λl h hb=>Dk (l:=l) V V h hb) hf))
 rintro _ w' g;obtain⟨c9,s',rfl,M,H9,_⟩:=M.call g;refine Ad V (UX _ _ _) V ?_;obtain⟨w',hst,M⟩:=M.store (off:=43) 9 H9 Ki rfl rfl;refine An V V hst ?_;refine Aj [(0,ptr p),(2,ptr w.heap.size)] ⟨V,V,trivial⟩ ?_;refine Ac (Ab ?_);refine Aa V V ?_;refine Aa V V ?_;refine Ba V V V ?_;refine Af call122 V V ((SG (SH (G1 _ (by omega)) (ih hno0))) _ _ M.rst (M.nest.trans (congrArg (·+1) hnk))) ?_ ?_;rotate_left
 ·intro ch w' hf a ha;exact Ap (Bt ha (M.fail_deep hbx hbp hbc (λl h hb=>Dk (l:=l) V V h hb) hf))
 rintro _ w' g;obtain⟨c10,s',rfl,M,H10,_⟩:=M.call g;refine Ad V (UL _ _ _) V ?_;obtain⟨w',hst,M⟩:=M.store (off:=44) 10 H10 Hx rfl rfl;refine An V V hst ?_;refine Aj [(0,ptr p),(2,ptr w.heap.size)] ⟨V,V,trivial⟩ ?_;refine Ac (Ab ?_);refine Aa V V ?_;refine Aa V V ?_;refine Ba V V V ?_;refine Af call194 V V ((Af1 (Af2 (G1 _ (by omega)))) _ _ M.rst (M.nest.trans (congrArg (·+1) hnk))) ?_ ?_;rotate_left
 ·intro ch w' hf a ha;exact Ap (Bt ha (M.fail_deep hbx hbp hbc (λl h hb=>Dk (l:=l) V V h hb) hf))
 rintro _ w' g;obtain⟨c11,s',rfl,M,H11,_⟩:=M.call g;refine Ad V (Lk _ _ _) V ?_;obtain⟨w',hst,M⟩:=M.store (off:=45) 11 H11 Kj rfl rfl;refine An V V hst ?_;refine Aj [(0,ptr p),(2,ptr w.heap.size)] ⟨V,V,trivial⟩ ?_;refine Ac (Ab ?_);refine Aa V V ?_;refine Aa V V ?_;refine Ba V V V ?_;refine Af call196 V V ((Af3 (Af4 (ih hno0))) _ _ M.rst (M.nest.trans (congrArg (·+1) hnk))) ?_ ?_;rotate_left
 ·intro ch w' hf a ha;exact Ap (Bt ha (M.fail_deep hbx hbp hbc (λl h hb=>Dk (l:=l) V V h hb) hf))
 rintro _ w' g;obtain⟨c12,s',rfl,M,H12,_⟩:=M.call g;refine Ad V (Jc _ _ _) V ?_;obtain⟨w',hst,M⟩:=M.store (off:=46) 12 H12 It rfl rfl;refine An V V hst ?_;refine Aj [(0,ptr p),(2,ptr w.heap.size)] ⟨V,V,trivial⟩ ?_;refine Ac (Ab ?_);refine Aa V V ?_;refine Aa V V ?_;refine Ba V V V ?_;refine Af call124 V V ((KY (ih hno0)) _ _ M.rst (M.nest.trans (congrArg (·+1) hnk))) ?_ ?_;rotate_left
 ·intro ch w' hf a ha;exact Ap (Bt ha (M.fail_deep hbx hbp hbc (λl h hb=>Dk (l:=l) V V h hb) hf))
 rintro _ w' g;obtain⟨OY,s',rfl,M,H13,_⟩:=M.call g;refine Ad V (UM _ _ _) V ?_;obtain⟨w',hst,M⟩:=M.store (off:=47) 13 H13 Ew rfl rfl;refine An V V hst ?_;refine Aj [(0,ptr p),(2,ptr w.heap.size)] ⟨V,V,trivial⟩ ?_;refine Ac (Ab ?_);refine Aa V V ?_;refine Aa V V ?_;refine Ba V V V ?_;refine Af call124 V V ((KY (ih hno0)) _ _ M.rst (M.nest.trans (congrArg (·+1) hnk))) ?_ ?_;rotate_left
 ·intro ch w' hf a ha;exact Ap (Bt ha (M.fail_deep hbx hbp hbc (λl h hb=>Dk (l:=l) V V h hb) hf))
 rintro _ w' g;obtain⟨Yq,s',rfl,M,H14,_⟩:=M.call g;refine Ad V (UN _ _ _) V ?_;obtain⟨w',hst,M⟩:=M.store (off:=48) 14 H14 Ew rfl rfl;refine An V V hst ?_;refine Aj [(0,ptr p),(2,ptr w.heap.size)] ⟨V,V,trivial⟩ ?_;refine Ac (Ab ?_);refine Aa V V ?_;refine Af call118 V V (Dv _ _ M.rst (M.nest.trans (congrArg (·+1) hnk))) ?_ ?_;rotate_left
 ·intro ch w' hf a ha;exact Ap (Bt ha (M.fail_deep hbx hbp hbc (λl h hb=>Dk (l:=l) V V h hb) hf))
 rintro _ w' g;obtain⟨Yr,s',rfl,M,H15,_⟩:=M.call g;refine Aa V V ?_;refine Af call118 V V (Dv _ _ M.rst (M.nest.trans (congrArg (·+1) hnk))) ?_ ?_;rotate_left
 ·intro ch w' hf a ha;exact Ap (Bt ha (M.fail_deep hbx hbp hbc (λl h hb=>Dk (l:=l) V V h hb) hf))
 rintro _ w' g;obtain⟨c16,s',rfl,M,H16,_⟩:=M.call g;refine Ad V (UO _ _ _) V ?_;obtain⟨w',hst,M⟩:=M.store (off:=49) 15 H15 AQ rfl rfl;refine An V V hst ?_;refine Ad V (UP _ _ _) V ?_;obtain⟨w',hst,M⟩:=M.store (off:=50) 16 H16 AQ rfl rfl;refine An V V hst ?_;refine Aj [(0,ptr p),(2,ptr w.heap.size)] ⟨V,V,trivial⟩ ?_;obtain⟨hl,h1,l,hchk,hrep⟩:=M.rep_st (sn:=.instr) rfl;have B:=M.blk.all;obtain⟨w',hst,M2,hkeep⟩:=M.self (N:=51) Jo hl h1;have hrep2:=hkeep _ _ _ _ hrep;exact Ac (Ab (Ae V (AS Jo hl B) V (An V V hst (Ag (AJ λa ha=>M2.good_deep hbx hbp hbc V hno Jo hl hchk hrep2 V ha V)))))
theorem Wf:∀k,k<=1000->Be n0 p 125 (.st .instr) k:=by
 have key:∀j k,k<=1000->1000-k<=j->Be n0 p 125 (.st .instr) k:=by
  intro j;induction j with
  |zero=>intro k hk hj;exact Yp hk (λh=>absurd h (by omega))
  |succ j ihj=>intro k hk hj;exact Yp hk (λh=>ihj (k+1) (by omega) (by omega))
 exactλk hk=>key _ k hk (Ay _)
theorem Ae3{e:Ty}(h:E1 .bool s):E1 (.ptr e) s:=by
 have h0:s.eat 0=none:=by have:=h (.bool false);simp only[AU]at this;exact this
 have h1:s.eat 1=none:=by have:=h (.bool true);simp only[AU]at this;exact this
 intro t;cases t<;>simp only[AU]
 ·exact h0
 ·rw[h1];rfl
theorem Ae2{e:Ty}{s':RS}(he:s.eat 1=some s')(h:E1 e s'):E1 (.ptr e) s:=by
 intro t;cases t<;>simp only[AU]
 ·cases h0:s.eat 0 with
  |none=>rfl
  |some u=>have:=(FJ h0 he).1;omega
 ·rw[he];exact h _
theorem MSt.read{c tid:Nat}{sz:List Nat}{wz w0:World}{s0:RS}{cells chunks:List (List Value)}(h:MSt n0 p c tid sz fs wz w0 s0 cells chunks s w){t:T}{s':RS}{cs:List Value}{w':World}
 (hc:AU t f s=some s') (hrep:Rep w' (λb=>w.heap.size<=b) t f cs) (hst:RSt n0 p s' w') (f':Fr (only p) w (only p) w') (hn:s'.nest=s.nest):MSt n0 p c tid sz (fs++[f]) wz w0 s0 (cells++[cs]) chunks s' w':=by
 obtain⟨l,hr,hchk⟩:=h.rep;have hne:=h.ne;have hcl:=h.blk.lt;have hbase:=h.base;have hlp:=h.rst.lp;have hw0:=h.fr.size;refine⟨hst,h.fr.trans (f'.drop (λb hb=>.inl hb)),h.c0,(f'.blk c hcl hne).trans h.blk,h.len,⟨l++[t],?_,(SY l fs t f s0 s hchk).trans hc⟩,hbase,hn.trans h.nest,λb h1 h2 h3=>(f'.blk b (BB h1 h.alsoz) h2).trans (h.also b h1 h2 h3),AX h.alsoz f'.size⟩;refine RepC.snoc (Rep.agree (λb hb hl=>⟨⟨by omega,by omega⟩,hl,rfl⟩) _ _ _ hrep) (RepC.agree (λb hb hl=>⟨hb,BB hl f'.size,f'.blk b hl (λe=>by have:=hb.1;omega)⟩) hr)
theorem c58(hS:Be n0 p 32 (.st .sheet) k):Be n0 p 58 (.st .use) k:=by
 intro s w hs hnk;obtain⟨Z,hz,hzl,hz1⟩:∃Z:List Value,(∀w,(zeroValue 48).run prog w= .ok (.agg Z.toArray) w)/\Z.length=Co [1,1,1,1]/\∀c0,((FL [1,1,1,1] Z).set 0 c0).set 1 [.pointer none]=(FL [1,1,1,1] Z).set 0 c0:=
  ⟨_,zeroValue48,rfl,λc0=>rfl⟩
 obtain⟨Y,hy,hyl⟩:∃Y:List Value,(∀w,(zeroValue 36).run prog w= .ok (.agg Y.toArray) w)/\Y.length=10:=⟨_,zeroValue36,rfl⟩;refine AE 19 func58 V V V ?_;refine Ac (Ab (Ct (hz _) V (Aj [(0,ptr p),(2,ptr w.heap.size)] ⟨V,V,trivial⟩ ?_)));have M:=MSt.new (tid:=48) (sz:=[1,1,1,1]) hs hzl;show W _ _ _ _ _ _ (w.alloc (.cells Z.toArray 48));generalize w.alloc (.cells Z.toArray 48)=w1 at M⊢;refine Ac (Ab ?_);refine Aa V V ?_;refine Af call56 V V (CN _ _ M.rst (M.nest.trans hnk)) ?_ ?_;rotate_left
 ·intro ch w' hf a ha;exact Ap (A8 ha (M.fail_st V V hf))
 rintro _ w' g;obtain⟨c0,s',rfl,M,H0,_⟩:=M.call g;refine Ad V (PS _ _ _) V ?_;obtain⟨w',hst,M⟩:=M.store (off:=0) 0 H0 AK rfl rfl;refine An V V hst ?_;refine Aj [(0,ptr p),(2,ptr w.heap.size)] ⟨V,V,trivial⟩ ?_;refine CM (ι:=List Value×RS) (λ_=>[(0,ptr p),(2,ptr w.heap.size)]) (λi w'=>MSt n0 p w.heap.size 48 [1,1,1,1] [.str,.ptr (.st .sheet)] w1 w s [c0,i.1] (((FL [1,1,1,1] Z).set 0 c0).set 1 i.1) i.2 w') ?_ ?_
 ·refine Ac (Ab ?_);refine Aa V V ?_;refine Af call117 V V (F8 (k:=k) _ _ M.rst (M.nest.trans hnk)) ?_ ?_;rotate_left
  ·rintro ch w2 ⟨hch,hb,s2,h2,f2,hn2⟩ a ha;exact Ap (Ap (A8 ha (M.fail_st (sn:=.use) V V ⟨hch,Ae3 hb,s2,h2,f2,hn2⟩)))
  rintro _ w2 ⟨t,s2,cs,hc,rfl,hrep,h2,f2,hn2⟩;obtain⟨b,rfl,rfl⟩:=hrep.bool_inv;simp only[AU]at hc;have hns:s2.nest=k:=hn2.trans (M.nest.trans hnk);refine Ag ?_;show W _ _ _ _ _ ((_,.bool b)::_) _;cases b with
  |false=>
   refine Fz V (AG λa ha=>Ak ⟨([.pointer none],s2),ha.weak ⟨V,V,trivial⟩,?_⟩);simp only[hz1];exact M.read (f:=.ptr (.st .sheet)) (t:=.nil) (by simp only[AU];exact hc) (by simp only[Rep]) h2 f2 hn2
  |true=>
   refine Ga V (Ac (Ab (Aa V V (Af call32 V V (hS _ _ h2 hns) ?_ ?_))));rotate_left
   ·rintro ch w3 ⟨hch,hb,s3,h3,f3,hn3⟩ a ha;exact Ap (Ap (A8 ha (M.fail_st (sn:=.use) V V ⟨hch,Ae2 hc hb,s3,h3,f2.trans f3,by omega⟩)))
   rintro _ w3 ⟨t,s3,cs,hc3,rfl,hrep3,h3,f3,hn3⟩;refine Ct (hy _) V ?_;have a4:Blk (w3.alloc (.cells Y.toArray 36)) w3.heap.size Y 36:=Cf;have f4:Fr (λ_=>False) w3 (λ_=>False) (w3.alloc (.cells Y.toArray 36)):=Fr.alloc _ _ _;have hs4:(w3.alloc (.cells Y.toArray 36)).heap.size=w3.heap.size+1:=by simp
   show WL _ _ _ _ _ _ _ (w3.alloc (.cells Y.toArray 36));generalize w3.alloc (.cells Y.toArray 36)=w4 at a4 f4 hs4⊢;obtain⟨hcl,hc1⟩:=Rep.one _ _ _ hrep3;have hcl':cs.length=10:=hcl;have hst:=CG (P:=prog) (v:=.agg cs.toArray) Ev rfl hcl' hc1 a4 (o:=0) (by omega);have hsp:Ci Y 0 cs=cs:=by simp[Ci,hyl,hcl']
   rw[hsp]at hst;have hpn:p<n0:=h3.lp;have hnl:=M.rst.ln;have hw2:=f2.size;have hw3:=f3.size;have f5:Fr (only p) w3 (only p) (w4.setRow w3.heap.size cs.toArray):=⟨f4.os,f4.tape,f4.output,by simp only[E8];omega,λb hb _=>(setRow_other _ _ _ _ (by omega)).trans (f4.blk b hb (λh=>h)),λb hb=>.inl hb⟩;have h5:RSt n0 p s3 (w4.setRow w3.heap.size cs.toArray):=(h3.keep f4 (λ_ h=>h.elim)).keep (Fr.setRow (O:=only w3.heap.size) _ rfl) (λk hk=>by have:k=w3.heap.size:=hk;omega);have b5:Blk (w4.setRow w3.heap.size cs.toArray) w3.heap.size cs 36:=a4.setRow _;have hs5:(w4.setRow w3.heap.size cs.toArray).heap.size=w4.heap.size:=by simp
   refine An V V hst (Ag ?_);generalize w4.setRow w3.heap.size cs.toArray=w5 at f5 h5 b5 hs5⊢;have hrep5:Rep w5 (λb=>w'.heap.size<=b) (.ptr t) (.ptr (.st .sheet)) [.pointer (some ⟨w3.heap.size,0,none⟩)]:=by
    simp only[Rep];refine⟨w3.heap.size,0,cs,rfl,by omega,by omega,b5.all,hcl,Rep.agree (λb hb hl=>⟨by omega,by omega,f5.blk b hl (λe=>by have:b=p:=e;omega)⟩) _ _ _ hrep3⟩
   have hck:AU (.ptr t) (.ptr (.st .sheet)) s'=some s3:=by
    have hc1':s'.eat 1=some s2:=hc;simp only[AU,hc1',Cw];exact hc3
   have M5:=M.read (f:=.ptr (.st .sheet)) (t:=.ptr t) (s':=s3) hck hrep5 h5 (f2.trans (f3.trans f5)) (hn3.trans hn2);obtain⟨w6,hst6,M6⟩:=M5.store (off:=1) 1 ⟨_,_,_,hrep5⟩ Gr rfl rfl;refine Ab (Ad V (GQ _ _ _) V (An V V hst6 (A2 λa ha=>Ak ⟨([.pointer (some ⟨w3.heap.size,0,none⟩)],s3),ha.weak ⟨V,V,trivial⟩,M6⟩)))
 ·rintro⟨c1,s2⟩ w2 M;simp only at M;refine Ac (Ab ?_);refine Aa V V ?_;refine Af call118 V V (Dv _ _ M.rst (M.nest.trans hnk)) ?_ ?_;rotate_left
  ·intro ch w' hf a ha;exact Ap (A8 ha (M.fail_st (sn:=.use) V V hf))
  rintro _ w' g;obtain⟨c2,s',rfl,M,H2,_⟩:=M.call g;refine Aa V V ?_;refine Af call118 V V (Dv _ _ M.rst (M.nest.trans hnk)) ?_ ?_;rotate_left
  ·intro ch w' hf a ha;exact Ap (A8 ha (M.fail_st (sn:=.use) V V hf))
  rintro _ w' g;obtain⟨c3,s',rfl,M,H3,_⟩:=M.call g;refine Ad V (MW _ _ _) V ?_;obtain⟨w',hst,M⟩:=M.store (off:=2) 2 H2 AQ rfl rfl;refine An V V hst ?_;refine Ad V (MX _ _ _) V ?_;obtain⟨w',hst,M⟩:=M.store (off:=3) 3 H3 AQ rfl rfl;refine An V V hst ?_;refine Aj [(0,ptr p),(2,ptr w.heap.size)] ⟨V,V,trivial⟩ ?_;obtain⟨hl,h1,l,hchk,hrep⟩:=M.rep_st (sn:=.use) rfl;have B:=M.blk.all;obtain⟨w',hst,M,_⟩:=M.self (N:=4) ER hl h1;exact Ac (Ab (Ae V (AS ER hl B) V (An V V hst (Ag (AJ λa ha=>Em V ha V (AS ER hl M.blk.all) (M.good_st V V))))))
theorem Y5(hk:k<=1000)(ih:¬1000<k+1->Be n0 p 32 (.st .sheet) (k+1)):Be n0 p 32 (.st .sheet) k:=by
 intro s w hs hnk;obtain⟨Z,hz,hzl⟩:∃Z:List Value,(∀w,(zeroValue 36).run prog w= .ok (.agg Z.toArray) w)/\Z.length=Co [1,1,1,1,1,1,1,1,1,1]:=⟨_,zeroValue36,rfl⟩;refine IU 54 func32 V V V ?_;refine Ac (Ab (Ct (hz _) V (Aj [(0,ptr p),(2,ptr w.heap.size)] ⟨V,V,trivial⟩ ?_)));have M:=MSt.new (tid:=36) (sz:=[1,1,1,1,1,1,1,1,1,1]) hs hzl;have hcs:w.heap.size<(w.alloc (.cells Z.toArray 36)).heap.size:=by simp
 show W _ _ _ _ _ _ (w.alloc (.cells Z.toArray 36));generalize w.alloc (.cells Z.toArray 36)=w1 at M hcs⊢;refine Ac (Ab (Aa V V (Af call55 V V (SR M.rst (by omega)) ?_ ?_)));rotate_left
 ·rintro ch w2 ⟨rfl,hm,f2,h2⟩ a ha;exact Ap (L6 ha ⟨rfl,Sw V hm,_,h2,M.frame f2,Mk _⟩)
 rintro _ w2 ⟨hno,bx,rfl,hbx,hbx2,f2,h2⟩;have hno0:=hno;rw[hnk]at hno0;have hbp:bx≠p:=λe=>by have:=hs.lp;have:=hs.ln;omega
 have hbc:bx≠w.heap.size:=by omega
 replace M:=M.deep hzl f2 h2;refine IP V (Aj [(0,ptr p),(2,ptr w.heap.size)] ⟨V,V,trivial⟩ ?_);show W _ _ _ _ [MF bx] _ _;refine Ac (Ab ?_);refine Aa V V ?_;refine Af call56 V V (CN _ _ M.rst (M.nest.trans (congrArg (·+1) hnk))) ?_ ?_;rotate_left
 ·intro ch w' hf a ha;exact Ap (Bt ha (M.fail_deep hbx hbp hbc (λl h hb=>Dk (l:=l) V V h hb) hf))
 rintro _ w' g;obtain⟨c0,s',rfl,M,H0,_⟩:=M.call g;refine Ad V (PR _ _ _) V ?_;obtain⟨w',hst,M⟩:=M.store (off:=0) 0 H0 AK rfl rfl;refine An V V hst ?_;refine Aj [(0,ptr p),(2,ptr w.heap.size)] ⟨V,V,trivial⟩ ?_;refine Ac (Ab ?_);refine Aa V V ?_;refine Aa V V ?_;refine Ba V V V ?_;refine Af call57 V V ((c57 (c58 (ih hno0))) _ _ M.rst (M.nest.trans (congrArg (·+1) hnk))) ?_ ?_;rotate_left
 ·intro ch w' hf a ha;exact Ap (Bt ha (M.fail_deep hbx hbp hbc (λl h hb=>Dk (l:=l) V V h hb) hf))
 rintro _ w' g;obtain⟨c1,s',rfl,M,H1,_⟩:=M.call g;refine Ad V (Fl _ _ _) V ?_;obtain⟨w',hst,M⟩:=M.store (off:=1) 1 H1 EQ rfl rfl;refine An V V hst ?_;refine Aj [(0,ptr p),(2,ptr w.heap.size)] ⟨V,V,trivial⟩ ?_;refine Ac (Ab ?_);refine Aa V V ?_;refine Aa V V ?_;refine Ba V V V ?_;refine Af call59 V V ((c59 (c60 (G1 _ (by omega)) (Wf _ (by omega)))) _ _ M.rst (M.nest.trans (congrArg (·+1) hnk))) ?_ ?_;rotate_left
 ·intro ch w' hf a ha;exact Ap (Bt ha (M.fail_deep hbx hbp hbc (λl h hb=>Dk (l:=l) V V h hb) hf))
 rintro _ w' g;obtain⟨c2,s',rfl,M,H2,_⟩:=M.call g;refine Ad V (U2 _ _ _) V ?_;obtain⟨w',hst,M⟩:=M.store (off:=2) 2 H2 Qd rfl rfl;refine An V V hst ?_;refine Aj [(0,ptr p),(2,ptr w.heap.size)] ⟨V,V,trivial⟩ ?_;refine Ac (Ab ?_);refine Aa V V ?_;refine Aa V V ?_;refine Ba V V V ?_;refine Af call61 V V ((c61 (c62 (G1 _ (by omega)) (Wf _ (by omega)))) _ _ M.rst (M.nest.trans (congrArg (·+1) hnk))) ?_ ?_;rotate_left
 ·intro ch w' hf a ha;exact Ap (Bt ha (M.fail_deep hbx hbp hbc (λl h hb=>Dk (l:=l) V V h hb) hf))
 rintro _ w' g;obtain⟨c3,s',rfl,M,H3,_⟩:=M.call g;refine Ad V (U3 _ _ _) V ?_;obtain⟨w',hst,M⟩:=M.store (off:=3) 3 H3 Qe rfl rfl;refine An V V hst ?_;refine Aj [(0,ptr p),(2,ptr w.heap.size)] ⟨V,V,trivial⟩ ?_;refine Ac (Ab ?_);refine Aa V V ?_;refine Aa V V ?_;refine Ba V V V ?_;refine Af call63 V V ((c63 (c64 (G1 _ (by omega)) (Wf _ (by omega)))) _ _ M.rst (M.nest.trans (congrArg (·+1) hnk))) ?_ ?_;rotate_left
 ·intro ch w' hf a ha;exact Ap (Bt ha (M.fail_deep hbx hbp hbc (λl h hb=>Dk (l:=l) V V h hb) hf))
 rintro _ w' g;obtain⟨c4,s',rfl,M,H4,_⟩:=M.call g;refine Ad V (U4 _ _ _) V ?_;obtain⟨w',hst,M⟩:=M.store (off:=4) 4 H4 Qf rfl rfl;refine An V V hst ?_;refine Aj [(0,ptr p),(2,ptr w.heap.size)] ⟨V,V,trivial⟩ ?_;refine Ac (Ab ?_);refine Aa V V ?_;refine Aa V V ?_;refine Ba V V V ?_;refine Af call65 V V ((c65 (c66 (G1 _ (by omega)))) _ _ M.rst (M.nest.trans (congrArg (·+1) hnk))) ?_ ?_;rotate_left
 ·intro ch w' hf a ha;exact Ap (Bt ha (M.fail_deep hbx hbp hbc (λl h hb=>Dk (l:=l) V V h hb) hf))
 rintro _ w' g;obtain⟨c5,s',rfl,M,H5,_⟩:=M.call g;refine Ad V (JY _ _ _) V ?_;obtain⟨w',hst,M⟩:=M.store (off:=5) 5 H5 Jn rfl rfl;refine An V V hst ?_;refine Aj [(0,ptr p),(2,ptr w.heap.size)] ⟨V,V,trivial⟩ ?_;refine Ac (Ab ?_);refine Aa V V ?_;refine Aa V V ?_;refine Ba V V V ?_;refine Af call67 V V ((c67 (c68 (G1 _ (by omega)))) _ _ M.rst (M.nest.trans (congrArg (·+1) hnk))) ?_ ?_;rotate_left
 ·intro ch w' hf a ha;exact Ap (Bt ha (M.fail_deep hbx hbp hbc (λl h hb=>Dk (l:=l) V V h hb) hf))
 rintro _ w' g;obtain⟨c6,s',rfl,M,H6,_⟩:=M.call g;refine Ad V (GP _ _ _) V ?_;obtain⟨w',hst,M⟩:=M.store (off:=6) 6 H6 Gp rfl rfl;refine An V V hst ?_;refine Aj [(0,ptr p),(2,ptr w.heap.size)] ⟨V,V,trivial⟩ ?_;refine Ac (Ab ?_);refine Aa V V ?_;refine Aa V V ?_;refine Ba V V V ?_;refine Af call69 V V ((c69 c70) _ _ M.rst (M.nest.trans (congrArg (·+1) hnk))) ?_ ?_;rotate_left
 ·intro ch w' hf a ha;exact Ap (Bt ha (M.fail_deep hbx hbp hbc (λl h hb=>Dk (l:=l) V V h hb) hf))
 rintro _ w' g;obtain⟨c7,s',rfl,M,H7,_⟩:=M.call g;refine Ad V (Gl _ _ _) V ?_;obtain⟨w',hst,M⟩:=M.store (off:=7) 7 H7 Gq rfl rfl;refine An V V hst ?_;refine Aj [(0,ptr p),(2,ptr w.heap.size)] ⟨V,V,trivial⟩ ?_;refine Ac (Ab ?_);refine Aa V V ?_;refine Aa V V ?_;refine Ba V V V ?_;refine Af call71 V V ((c71 c72) _ _ M.rst (M.nest.trans (congrArg (·+1) hnk))) ?_ ?_;rotate_left
 ·intro ch w' hf a ha;exact Ap (Bt ha (M.fail_deep hbx hbp hbc (λl h hb=>Dk (l:=l) V V h hb) hf))
 rintro _ w' g;obtain⟨c8,s',rfl,M,H8,_⟩:=M.call g;refine Ad V (In _ _ _) V ?_;obtain⟨w',hst,M⟩:=M.store (off:=8) 8 H8 Hv rfl rfl;refine An V V hst ?_;refine Aj [(0,ptr p),(2,ptr w.heap.size)] ⟨V,V,trivial⟩ ?_;refine Ac (Ab ?_);refine Aa V V ?_;refine Aa V V ?_;refine Ba V V V ?_;refine Af call73 V V ((c73 c74) _ _ M.rst (M.nest.trans (congrArg (·+1) hnk))) ?_ ?_;rotate_left
 ·intro ch w' hf a ha;exact Ap (Bt ha (M.fail_deep hbx hbp hbc (λl h hb=>Dk (l:=l) V V h hb) hf))
 rintro _ w' g;obtain⟨c9,s',rfl,M,H9,_⟩:=M.call g;refine Ad V (Io _ _ _) V ?_;obtain⟨w',hst,M⟩:=M.store (off:=9) 9 H9 Hw rfl rfl;refine An V V hst ?_;refine Aj [(0,ptr p),(2,ptr w.heap.size)] ⟨V,V,trivial⟩ ?_;obtain⟨hl,h1,l,hchk,hrep⟩:=M.rep_st (sn:=.sheet) rfl;have B:=M.blk.all;obtain⟨w',hst,M2,hkeep⟩:=M.self (N:=10) Ev hl h1;have hrep2:=hkeep _ _ _ _ hrep;exact Ac (Ab (Ae V (AS Ev hl B) V (An V V hst (Ag (AJ λa ha=>M2.good_deep hbx hbp hbc V hno Ev hl hchk hrep2 V ha V)))))
theorem Asx:∀k,k<=1000->Be n0 p 32 (.st .sheet) k:=by
 have key:∀j k,k<=1000->1000-k<=j->Be n0 p 32 (.st .sheet) k:=by
  intro j;induction j with
  |zero=>intro k hk hj;exact Y5 hk (λh=>absurd h (by omega))
  |succ j ihj=>intro k hk hj;exact Y5 hk (λh=>ihj (k+1) (by omega) (by omega))
 exactλk hk=>key _ k hk (Ay _)
end Go.Sx