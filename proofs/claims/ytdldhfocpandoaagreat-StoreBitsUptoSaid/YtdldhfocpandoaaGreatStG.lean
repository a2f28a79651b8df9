import Derived.Test.YtdldhfocpandoaaGreatStF
namespace Go.Sx
open Go.Proofs
theorem c126 {n0 p k : Nat}  : RCall n0 p 126 (.st .type) k := by
 intro s w hs hnk
 obtain ⟨Z, hz, hzl⟩ : ∃ Z : List Value, (∀ w, (zeroValue 63).run Tryz.prog w = .ok (.agg Z.toArray) w) ∧ Z.length = sumN [1, 1, 2, 1] := ⟨_, Tryz.zeroValue63, rfl⟩
 refine cW 16 Tryz.func126 rfl rfl rfl ?_
 refine W.sq (W.rg (WL.alloc (hz _) rfl (WL.kp [(0, ptr p), (2, ptr w.heap.size)] ⟨rfl, rfl, trivial⟩ ?_)))
 have M := MSt.new (tid := 63) (sz := [1, 1, 2, 1]) hs hzl
 have hcs : w.heap.size < (w.alloc (.cells Z.toArray 63)).heap.size := by simp
 show W _ _ _ _ _ _ (w.alloc (.cells Z.toArray 63))
 generalize w.alloc (.cells Z.toArray 63) = w1 at M hcs ⊢
 refine W.sq (W.rg ?_)
 refine WL.mv rfl rfl ?_
 refine WL.cl Tryz.call118 rfl rfl (c118 _ _ M.rst (M.nest.trans hnk)) ?_ ?_
 rotate_left
 · intro ch w' hf a ha
   exact tP (pP ha (M.fail_st rfl rfl hf))
 rintro _ w' g
 obtain ⟨c0, s', rfl, M, H0, _⟩ := M.call g
 refine WL.mv rfl rfl ?_
 refine WL.cl Tryz.call118 rfl rfl (c118 _ _ M.rst (M.nest.trans hnk)) ?_ ?_
 rotate_left
 · intro ch w' hf a ha
   exact tP (pP ha (M.fail_st rfl rfl hf))
 rintro _ w' g
 obtain ⟨c1, s', rfl, M, H1, _⟩ := M.call g
 refine WL.fa rfl (fld63_0 _ _ _) rfl ?_
 obtain ⟨w', hst, M⟩ := M.store (off := 0) 0 H0 iy3 rfl rfl
 refine WL.so rfl rfl hst ?_
 refine WL.fa rfl (fld63_1 _ _ _) rfl ?_
 obtain ⟨w', hst, M⟩ := M.store (off := 1) 1 H1 iy3 rfl rfl
 refine WL.so rfl rfl hst ?_
 refine WL.kp [(0, ptr p), (2, ptr w.heap.size)] ⟨rfl, rfl, trivial⟩ ?_
 refine W.sq (W.rg ?_)
 refine WL.mv rfl rfl ?_
 refine WL.cl Tryz.call189 rfl rfl (c189 _ _ M.rst (M.nest.trans hnk)) ?_ ?_
 rotate_left
 · intro ch w' hf a ha
   exact tP (pP ha (M.fail_st rfl rfl hf))
 rintro _ w' g
 obtain ⟨c2, s', rfl, M, H2, _⟩ := M.call g
 refine WL.fa rfl (fld63_2 _ _ _) rfl ?_
 obtain ⟨w', hst, M⟩ := M.store (off := 2) 2 H2 iy61 rfl rfl
 refine WL.so rfl rfl hst ?_
 refine WL.kp [(0, ptr p), (2, ptr w.heap.size)] ⟨rfl, rfl, trivial⟩ ?_
 refine W.sq (W.rg ?_)
 refine WL.mv rfl rfl ?_
 refine WL.cl Tryz.call56 rfl rfl (c56 _ _ M.rst (M.nest.trans hnk)) ?_ ?_
 rotate_left
 · intro ch w' hf a ha
   exact tP (pP ha (M.fail_st rfl rfl hf))
 rintro _ w' g
 obtain ⟨c3, s', rfl, M, H3, _⟩ := M.call g
 refine WL.fa rfl (fld63_3 _ _ _) rfl ?_
 obtain ⟨w', hst, M⟩ := M.store (off := 4) 3 H3 iy9 rfl rfl
 refine WL.so rfl rfl hst ?_
 refine WL.kp [(0, ptr p), (2, ptr w.heap.size)] ⟨rfl, rfl, trivial⟩ ?_
 obtain ⟨hl, h1, l, hchk, hrep⟩ := M.rep_st (sn := .type) rfl
 have B := M.blk.all
 obtain ⟨w', hst, M, _⟩ := M.self (N := 5) iy63 hl h1
 exact W.sq (W.rg (WL.ld rfl (loadN iy63 hl B) rfl (WL.so rfl rfl hst (WL.nx (W.ret fun a ha => post_cell rfl ha rfl (loadN iy63 hl M.blk.all) (M.good_st rfl rfl))))))
theorem c130 {n0 p k : Nat}  : RCall n0 p 130 (.st .swap) k := by
 intro s w hs hnk
 obtain ⟨Z, hz, hzl⟩ : ∃ Z : List Value, (∀ w, (zeroValue 170).run Tryz.prog w = .ok (.agg Z.toArray) w) ∧ Z.length = sumN [1, 1] := ⟨_, Tryz.zeroValue170, rfl⟩
 refine cW 10 Tryz.func130 rfl rfl rfl ?_
 refine W.sq (W.rg (WL.alloc (hz _) rfl (WL.kp [(0, ptr p), (2, ptr w.heap.size)] ⟨rfl, rfl, trivial⟩ ?_)))
 have M := MSt.new (tid := 170) (sz := [1, 1]) hs hzl
 have hcs : w.heap.size < (w.alloc (.cells Z.toArray 170)).heap.size := by simp
 show W _ _ _ _ _ _ (w.alloc (.cells Z.toArray 170))
 generalize w.alloc (.cells Z.toArray 170) = w1 at M hcs ⊢
 refine W.sq (W.rg ?_)
 refine WL.mv rfl rfl ?_
 refine WL.cl Tryz.call118 rfl rfl (c118 _ _ M.rst (M.nest.trans hnk)) ?_ ?_
 rotate_left
 · intro ch w' hf a ha
   exact tP (pP ha (M.fail_st rfl rfl hf))
 rintro _ w' g
 obtain ⟨c0, s', rfl, M, H0, _⟩ := M.call g
 refine WL.mv rfl rfl ?_
 refine WL.cl Tryz.call56 rfl rfl (c56 _ _ M.rst (M.nest.trans hnk)) ?_ ?_
 rotate_left
 · intro ch w' hf a ha
   exact tP (pP ha (M.fail_st rfl rfl hf))
 rintro _ w' g
 obtain ⟨c1, s', rfl, M, H1, _⟩ := M.call g
 refine WL.fa rfl (fld170_0 _ _ _) rfl ?_
 obtain ⟨w', hst, M⟩ := M.store (off := 0) 0 H0 iy3 rfl rfl
 refine WL.so rfl rfl hst ?_
 refine WL.fa rfl (fld170_1 _ _ _) rfl ?_
 obtain ⟨w', hst, M⟩ := M.store (off := 1) 1 H1 iy9 rfl rfl
 refine WL.so rfl rfl hst ?_
 refine WL.kp [(0, ptr p), (2, ptr w.heap.size)] ⟨rfl, rfl, trivial⟩ ?_
 obtain ⟨hl, h1, l, hchk, hrep⟩ := M.rep_st (sn := .swap) rfl
 have B := M.blk.all
 obtain ⟨w', hst, M, _⟩ := M.self (N := 2) iy170 hl h1
 exact W.sq (W.rg (WL.ld rfl (loadN iy170 hl B) rfl (WL.so rfl rfl hst (WL.nx (W.ret fun a ha => post_cell rfl ha rfl (loadN iy170 hl M.blk.all) (M.good_st rfl rfl))))))
theorem c70 {n0 p k : Nat}  : RCall n0 p 70 (.st .mode) k := by
 intro s w hs hnk
 obtain ⟨Z, hz, hzl⟩ : ∃ Z : List Value, (∀ w, (zeroValue 84).run Tryz.prog w = .ok (.agg Z.toArray) w) ∧ Z.length = sumN [1, 1, 1, 1, 1, 1] := ⟨_, Tryz.zeroValue84, rfl⟩
 refine cW 22 Tryz.func70 rfl rfl rfl ?_
 refine W.sq (W.rg (WL.alloc (hz _) rfl (WL.kp [(0, ptr p), (2, ptr w.heap.size)] ⟨rfl, rfl, trivial⟩ ?_)))
 have M := MSt.new (tid := 84) (sz := [1, 1, 1, 1, 1, 1]) hs hzl
 have hcs : w.heap.size < (w.alloc (.cells Z.toArray 84)).heap.size := by simp
 show W _ _ _ _ _ _ (w.alloc (.cells Z.toArray 84))
 generalize w.alloc (.cells Z.toArray 84) = w1 at M hcs ⊢
 refine W.sq (W.rg ?_)
 refine WL.mv rfl rfl ?_
 refine WL.cl Tryz.call56 rfl rfl (c56 _ _ M.rst (M.nest.trans hnk)) ?_ ?_
 rotate_left
 · intro ch w' hf a ha
   exact tP (pP ha (M.fail_st rfl rfl hf))
 rintro _ w' g
 obtain ⟨c0, s', rfl, M, H0, _⟩ := M.call g
 refine WL.mv rfl rfl ?_
 refine WL.cl Tryz.call56 rfl rfl (c56 _ _ M.rst (M.nest.trans hnk)) ?_ ?_
 rotate_left
 · intro ch w' hf a ha
   exact tP (pP ha (M.fail_st rfl rfl hf))
 rintro _ w' g
 obtain ⟨c1, s', rfl, M, H1, _⟩ := M.call g
 refine WL.mv rfl rfl ?_
 refine WL.cl Tryz.call117 rfl rfl (c117 _ _ M.rst (M.nest.trans hnk)) ?_ ?_
 rotate_left
 · intro ch w' hf a ha
   exact tP (pP ha (M.fail_st rfl rfl hf))
 rintro _ w' g
 obtain ⟨c2, s', rfl, M, H2, _⟩ := M.call g
 refine WL.mv rfl rfl ?_
 refine WL.cl Tryz.call117 rfl rfl (c117 _ _ M.rst (M.nest.trans hnk)) ?_ ?_
 rotate_left
 · intro ch w' hf a ha
   exact tP (pP ha (M.fail_st rfl rfl hf))
 rintro _ w' g
 obtain ⟨c3, s', rfl, M, H3, _⟩ := M.call g
 refine WL.mv rfl rfl ?_
 refine WL.cl Tryz.call56 rfl rfl (c56 _ _ M.rst (M.nest.trans hnk)) ?_ ?_
 rotate_left
 · intro ch w' hf a ha
   exact tP (pP ha (M.fail_st rfl rfl hf))
 rintro _ w' g
 obtain ⟨c4, s', rfl, M, H4, _⟩ := M.call g
 refine WL.mv rfl rfl ?_
 refine WL.cl Tryz.call118 rfl rfl (c118 _ _ M.rst (M.nest.trans hnk)) ?_ ?_
 rotate_left
 · intro ch w' hf a ha
   exact tP (pP ha (M.fail_st rfl rfl hf))
 rintro _ w' g
 obtain ⟨c5, s', rfl, M, H5, _⟩ := M.call g
 refine WL.fa rfl (fld84_0 _ _ _) rfl ?_
 obtain ⟨w', hst, M⟩ := M.store (off := 0) 0 H0 iy9 rfl rfl
 refine WL.so rfl rfl hst ?_
 refine WL.fa rfl (fld84_1 _ _ _) rfl ?_
 obtain ⟨w', hst, M⟩ := M.store (off := 1) 1 H1 iy9 rfl rfl
 refine WL.so rfl rfl hst ?_
 refine WL.fa rfl (fld84_2 _ _ _) rfl ?_
 obtain ⟨w', hst, M⟩ := M.store (off := 2) 2 H2 iy4 rfl rfl
 refine WL.so rfl rfl hst ?_
 refine WL.fa rfl (fld84_3 _ _ _) rfl ?_
 obtain ⟨w', hst, M⟩ := M.store (off := 3) 3 H3 iy4 rfl rfl
 refine WL.so rfl rfl hst ?_
 refine WL.fa rfl (fld84_4 _ _ _) rfl ?_
 obtain ⟨w', hst, M⟩ := M.store (off := 4) 4 H4 iy9 rfl rfl
 refine WL.so rfl rfl hst ?_
 refine WL.fa rfl (fld84_5 _ _ _) rfl ?_
 obtain ⟨w', hst, M⟩ := M.store (off := 5) 5 H5 iy3 rfl rfl
 refine WL.so rfl rfl hst ?_
 refine WL.kp [(0, ptr p), (2, ptr w.heap.size)] ⟨rfl, rfl, trivial⟩ ?_
 obtain ⟨hl, h1, l, hchk, hrep⟩ := M.rep_st (sn := .mode) rfl
 have B := M.blk.all
 obtain ⟨w', hst, M, _⟩ := M.self (N := 6) iy84 hl h1
 exact W.sq (W.rg (WL.ld rfl (loadN iy84 hl B) rfl (WL.so rfl rfl hst (WL.nx (W.ret fun a ha => post_cell rfl ha rfl (loadN iy84 hl M.blk.all) (M.good_st rfl rfl))))))
theorem c72 {n0 p k : Nat}  : RCall n0 p 72 (.st .output) k := by
 intro s w hs hnk
 obtain ⟨Z, hz, hzl⟩ : ∃ Z : List Value, (∀ w, (zeroValue 157).run Tryz.prog w = .ok (.agg Z.toArray) w) ∧ Z.length = sumN [1, 1, 1, 1, 1] := ⟨_, Tryz.zeroValue157, rfl⟩
 refine cW 21 Tryz.func72 rfl rfl rfl ?_
 refine W.sq (W.rg (WL.alloc (hz _) rfl (WL.kp [(0, ptr p), (2, ptr w.heap.size)] ⟨rfl, rfl, trivial⟩ ?_)))
 have M := MSt.new (tid := 157) (sz := [1, 1, 1, 1, 1]) hs hzl
 have hcs : w.heap.size < (w.alloc (.cells Z.toArray 157)).heap.size := by simp
 show W _ _ _ _ _ _ (w.alloc (.cells Z.toArray 157))
 generalize w.alloc (.cells Z.toArray 157) = w1 at M hcs ⊢
 refine W.sq (W.rg ?_)
 refine WL.mv rfl rfl ?_
 refine WL.cl Tryz.call56 rfl rfl (c56 _ _ M.rst (M.nest.trans hnk)) ?_ ?_
 rotate_left
 · intro ch w' hf a ha
   exact tP (pP ha (M.fail_st rfl rfl hf))
 rintro _ w' g
 obtain ⟨c0, s', rfl, M, H0, _⟩ := M.call g
 refine WL.mv rfl rfl ?_
 refine WL.cl Tryz.call56 rfl rfl (c56 _ _ M.rst (M.nest.trans hnk)) ?_ ?_
 rotate_left
 · intro ch w' hf a ha
   exact tP (pP ha (M.fail_st rfl rfl hf))
 rintro _ w' g
 obtain ⟨c1, s', rfl, M, H1, _⟩ := M.call g
 refine WL.mv rfl rfl ?_
 refine WL.cl Tryz.call117 rfl rfl (c117 _ _ M.rst (M.nest.trans hnk)) ?_ ?_
 rotate_left
 · intro ch w' hf a ha
   exact tP (pP ha (M.fail_st rfl rfl hf))
 rintro _ w' g
 obtain ⟨c2, s', rfl, M, H2, _⟩ := M.call g
 refine WL.mv rfl rfl ?_
 refine WL.cl Tryz.call117 rfl rfl (c117 _ _ M.rst (M.nest.trans hnk)) ?_ ?_
 rotate_left
 · intro ch w' hf a ha
   exact tP (pP ha (M.fail_st rfl rfl hf))
 rintro _ w' g
 obtain ⟨c3, s', rfl, M, H3, _⟩ := M.call g
 refine WL.fa rfl (fld157_0 _ _ _) rfl ?_
 obtain ⟨w', hst, M⟩ := M.store (off := 0) 0 H0 iy9 rfl rfl
 refine WL.so rfl rfl hst ?_
 refine WL.fa rfl (fld157_1 _ _ _) rfl ?_
 obtain ⟨w', hst, M⟩ := M.store (off := 1) 1 H1 iy9 rfl rfl
 refine WL.so rfl rfl hst ?_
 refine WL.fa rfl (fld157_2 _ _ _) rfl ?_
 obtain ⟨w', hst, M⟩ := M.store (off := 2) 2 H2 iy4 rfl rfl
 refine WL.so rfl rfl hst ?_
 refine WL.fa rfl (fld157_3 _ _ _) rfl ?_
 obtain ⟨w', hst, M⟩ := M.store (off := 3) 3 H3 iy4 rfl rfl
 refine WL.so rfl rfl hst ?_
 refine WL.kp [(0, ptr p), (2, ptr w.heap.size)] ⟨rfl, rfl, trivial⟩ ?_
 refine W.sq (W.rg ?_)
 refine WL.mv rfl rfl ?_
 refine WL.mv rfl rfl ?_
 refine WL.makeFunc rfl rfl rfl ?_
 refine WL.cl Tryz.call121 rfl rfl ((c121 c56) _ _ M.rst (M.nest.trans hnk)) ?_ ?_
 rotate_left
 · intro ch w' hf a ha
   exact tP (pP ha (M.fail_st rfl rfl hf))
 rintro _ w' g
 obtain ⟨c4, s', rfl, M, H4, _⟩ := M.call g
 refine WL.fa rfl (fld157_4 _ _ _) rfl ?_
 obtain ⟨w', hst, M⟩ := M.store (off := 4) 4 H4 iy44 rfl rfl
 refine WL.so rfl rfl hst ?_
 refine WL.kp [(0, ptr p), (2, ptr w.heap.size)] ⟨rfl, rfl, trivial⟩ ?_
 obtain ⟨hl, h1, l, hchk, hrep⟩ := M.rep_st (sn := .output) rfl
 have B := M.blk.all
 obtain ⟨w', hst, M, _⟩ := M.self (N := 5) iy157 hl h1
 exact W.sq (W.rg (WL.ld rfl (loadN iy157 hl B) rfl (WL.so rfl rfl hst (WL.nx (W.ret fun a ha => post_cell rfl ha rfl (loadN iy157 hl M.blk.all) (M.good_st rfl rfl))))))
theorem c74 {n0 p k : Nat}  : RCall n0 p 74 (.st .charMap) k := by
 intro s w hs hnk
 obtain ⟨Z, hz, hzl⟩ : ∃ Z : List Value, (∀ w, (zeroValue 162).run Tryz.prog w = .ok (.agg Z.toArray) w) ∧ Z.length = sumN [1, 1] := ⟨_, Tryz.zeroValue162, rfl⟩
 refine cW 12 Tryz.func74 rfl rfl rfl ?_
 refine W.sq (W.rg (WL.alloc (hz _) rfl (WL.kp [(0, ptr p), (2, ptr w.heap.size)] ⟨rfl, rfl, trivial⟩ ?_)))
 have M := MSt.new (tid := 162) (sz := [1, 1]) hs hzl
 have hcs : w.heap.size < (w.alloc (.cells Z.toArray 162)).heap.size := by simp
 show W _ _ _ _ _ _ (w.alloc (.cells Z.toArray 162))
 generalize w.alloc (.cells Z.toArray 162) = w1 at M hcs ⊢
 refine W.sq (W.rg ?_)
 refine WL.mv rfl rfl ?_
 refine WL.cl Tryz.call56 rfl rfl (c56 _ _ M.rst (M.nest.trans hnk)) ?_ ?_
 rotate_left
 · intro ch w' hf a ha
   exact tP (pP ha (M.fail_st rfl rfl hf))
 rintro _ w' g
 obtain ⟨c0, s', rfl, M, H0, _⟩ := M.call g
 refine WL.fa rfl (fld162_0 _ _ _) rfl ?_
 obtain ⟨w', hst, M⟩ := M.store (off := 0) 0 H0 iy9 rfl rfl
 refine WL.so rfl rfl hst ?_
 refine WL.kp [(0, ptr p), (2, ptr w.heap.size)] ⟨rfl, rfl, trivial⟩ ?_
 refine W.sq (W.rg ?_)
 refine WL.mv rfl rfl ?_
 refine WL.mv rfl rfl ?_
 refine WL.makeFunc rfl rfl rfl ?_
 refine WL.cl Tryz.call129 rfl rfl ((c129 c130) _ _ M.rst (M.nest.trans hnk)) ?_ ?_
 rotate_left
 · intro ch w' hf a ha
   exact tP (pP ha (M.fail_st rfl rfl hf))
 rintro _ w' g
 obtain ⟨c1, s', rfl, M, H1, _⟩ := M.call g
 refine WL.fa rfl (fld162_1 _ _ _) rfl ?_
 obtain ⟨w', hst, M⟩ := M.store (off := 1) 1 H1 iy160 rfl rfl
 refine WL.so rfl rfl hst ?_
 refine WL.kp [(0, ptr p), (2, ptr w.heap.size)] ⟨rfl, rfl, trivial⟩ ?_
 obtain ⟨hl, h1, l, hchk, hrep⟩ := M.rep_st (sn := .charMap) rfl
 have B := M.blk.all
 obtain ⟨w', hst, M, _⟩ := M.self (N := 2) iy162 hl h1
 exact W.sq (W.rg (WL.ld rfl (loadN iy162 hl B) rfl (WL.so rfl rfl hst (WL.nx (W.ret fun a ha => post_cell rfl ha rfl (loadN iy162 hl M.blk.all) (M.good_st rfl rfl))))))
theorem c191 {n0 p k : Nat} (hX : RCall n0 p 120 (.st .expr) k) : RCall n0 p 191 (.st .part) k := by
 intro s w hs hnk
 obtain ⟨Z, hz, hzl⟩ : ∃ Z : List Value, (∀ w, (zeroValue 282).run Tryz.prog w = .ok (.agg Z.toArray) w) ∧ Z.length = sumN [1, 1, 16] := ⟨_, Tryz.zeroValue282, rfl⟩
 refine cW 13 Tryz.func191 rfl rfl rfl ?_
 refine W.sq (W.rg (WL.alloc (hz _) rfl (WL.kp [(0, ptr p), (2, ptr w.heap.size)] ⟨rfl, rfl, trivial⟩ ?_)))
 have M := MSt.new (tid := 282) (sz := [1, 1, 16]) hs hzl
 have hcs : w.heap.size < (w.alloc (.cells Z.toArray 282)).heap.size := by simp
 show W _ _ _ _ _ _ (w.alloc (.cells Z.toArray 282))
 generalize w.alloc (.cells Z.toArray 282) = w1 at M hcs ⊢
 refine W.sq (W.rg ?_)
 refine WL.mv rfl rfl ?_
 refine WL.cl Tryz.call56 rfl rfl (c56 _ _ M.rst (M.nest.trans hnk)) ?_ ?_
 rotate_left
 · intro ch w' hf a ha
   exact tP (pP ha (M.fail_st rfl rfl hf))
 rintro _ w' g
 obtain ⟨c0, s', rfl, M, H0, _⟩ := M.call g
 refine WL.mv rfl rfl ?_
 refine WL.cl Tryz.call117 rfl rfl (c117 _ _ M.rst (M.nest.trans hnk)) ?_ ?_
 rotate_left
 · intro ch w' hf a ha
   exact tP (pP ha (M.fail_st rfl rfl hf))
 rintro _ w' g
 obtain ⟨c1, s', rfl, M, H1, _⟩ := M.call g
 refine WL.mv rfl rfl ?_
 refine WL.cl Tryz.call120 rfl rfl (hX _ _ M.rst (M.nest.trans hnk)) ?_ ?_
 rotate_left
 · intro ch w' hf a ha
   exact tP (pP ha (M.fail_st rfl rfl hf))
 rintro _ w' g
 obtain ⟨c2, s', rfl, M, H2, _⟩ := M.call g
 refine WL.fa rfl (fld282_0 _ _ _) rfl ?_
 obtain ⟨w', hst, M⟩ := M.store (off := 0) 0 H0 iy9 rfl rfl
 refine WL.so rfl rfl hst ?_
 refine WL.fa rfl (fld282_1 _ _ _) rfl ?_
 obtain ⟨w', hst, M⟩ := M.store (off := 1) 1 H1 iy4 rfl rfl
 refine WL.so rfl rfl hst ?_
 refine WL.fa rfl (fld282_2 _ _ _) rfl ?_
 obtain ⟨w', hst, M⟩ := M.store (off := 2) 2 H2 iy66 rfl rfl
 refine WL.so rfl rfl hst ?_
 refine WL.kp [(0, ptr p), (2, ptr w.heap.size)] ⟨rfl, rfl, trivial⟩ ?_
 obtain ⟨hl, h1, l, hchk, hrep⟩ := M.rep_st (sn := .part) rfl
 have B := M.blk.all
 obtain ⟨w', hst, M, _⟩ := M.self (N := 18) iy282 hl h1
 exact W.sq (W.rg (WL.ld rfl (loadN iy282 hl B) rfl (WL.so rfl rfl hst (WL.nx (W.ret fun a ha => post_cell rfl ha rfl (loadN iy282 hl M.blk.all) (M.good_st rfl rfl))))))
theorem c193 {n0 p k : Nat} (hX : RCall n0 p 120 (.st .expr) k) : RCall n0 p 193 (.st .sort) k := by
 intro s w hs hnk
 obtain ⟨Z, hz, hzl⟩ : ∃ Z : List Value, (∀ w, (zeroValue 286).run Tryz.prog w = .ok (.agg Z.toArray) w) ∧ Z.length = sumN [16, 1, 1, 1] := ⟨_, Tryz.zeroValue286, rfl⟩
 refine cW 16 Tryz.func193 rfl rfl rfl ?_
 refine W.sq (W.rg (WL.alloc (hz _) rfl (WL.kp [(0, ptr p), (2, ptr w.heap.size)] ⟨rfl, rfl, trivial⟩ ?_)))
 have M := MSt.new (tid := 286) (sz := [16, 1, 1, 1]) hs hzl
 have hcs : w.heap.size < (w.alloc (.cells Z.toArray 286)).heap.size := by simp
 show W _ _ _ _ _ _ (w.alloc (.cells Z.toArray 286))
 generalize w.alloc (.cells Z.toArray 286) = w1 at M hcs ⊢
 refine W.sq (W.rg ?_)
 refine WL.mv rfl rfl ?_
 refine WL.cl Tryz.call120 rfl rfl (hX _ _ M.rst (M.nest.trans hnk)) ?_ ?_
 rotate_left
 · intro ch w' hf a ha
   exact tP (pP ha (M.fail_st rfl rfl hf))
 rintro _ w' g
 obtain ⟨c0, s', rfl, M, H0, _⟩ := M.call g
 refine WL.mv rfl rfl ?_
 refine WL.cl Tryz.call117 rfl rfl (c117 _ _ M.rst (M.nest.trans hnk)) ?_ ?_
 rotate_left
 · intro ch w' hf a ha
   exact tP (pP ha (M.fail_st rfl rfl hf))
 rintro _ w' g
 obtain ⟨c1, s', rfl, M, H1, _⟩ := M.call g
 refine WL.mv rfl rfl ?_
 refine WL.cl Tryz.call117 rfl rfl (c117 _ _ M.rst (M.nest.trans hnk)) ?_ ?_
 rotate_left
 · intro ch w' hf a ha
   exact tP (pP ha (M.fail_st rfl rfl hf))
 rintro _ w' g
 obtain ⟨c2, s', rfl, M, H2, _⟩ := M.call g
 refine WL.mv rfl rfl ?_
 refine WL.cl Tryz.call56 rfl rfl (c56 _ _ M.rst (M.nest.trans hnk)) ?_ ?_
 rotate_left
 · intro ch w' hf a ha
   exact tP (pP ha (M.fail_st rfl rfl hf))
 rintro _ w' g
 obtain ⟨c3, s', rfl, M, H3, _⟩ := M.call g
 refine WL.fa rfl (fld286_0 _ _ _) rfl ?_
 obtain ⟨w', hst, M⟩ := M.store (off := 0) 0 H0 iy66 rfl rfl
 refine WL.so rfl rfl hst ?_
 refine WL.fa rfl (fld286_1 _ _ _) rfl ?_
 obtain ⟨w', hst, M⟩ := M.store (off := 16) 1 H1 iy4 rfl rfl
 refine WL.so rfl rfl hst ?_
 refine WL.fa rfl (fld286_2 _ _ _) rfl ?_
 obtain ⟨w', hst, M⟩ := M.store (off := 17) 2 H2 iy4 rfl rfl
 refine WL.so rfl rfl hst ?_
 refine WL.fa rfl (fld286_3 _ _ _) rfl ?_
 obtain ⟨w', hst, M⟩ := M.store (off := 18) 3 H3 iy9 rfl rfl
 refine WL.so rfl rfl hst ?_
 refine WL.kp [(0, ptr p), (2, ptr w.heap.size)] ⟨rfl, rfl, trivial⟩ ?_
 obtain ⟨hl, h1, l, hchk, hrep⟩ := M.rep_st (sn := .sort) rfl
 have B := M.blk.all
 obtain ⟨w', hst, M, _⟩ := M.self (N := 19) iy286 hl h1
 exact W.sq (W.rg (WL.ld rfl (loadN iy286 hl B) rfl (WL.so rfl rfl hst (WL.nx (W.ret fun a ha => post_cell rfl ha rfl (loadN iy286 hl M.blk.all) (M.good_st rfl rfl))))))
theorem c195 {n0 p k : Nat} (hX : RCall n0 p 120 (.st .expr) k) : RCall n0 p 195 (.st .source) k := by
 intro s w hs hnk
 obtain ⟨Z, hz, hzl⟩ : ∃ Z : List Value, (∀ w, (zeroValue 290).run Tryz.prog w = .ok (.agg Z.toArray) w) ∧ Z.length = sumN [16, 1] := ⟨_, Tryz.zeroValue290, rfl⟩
 refine cW 12 Tryz.func195 rfl rfl rfl ?_
 refine W.sq (W.rg (WL.alloc (hz _) rfl (WL.kp [(0, ptr p), (2, ptr w.heap.size)] ⟨rfl, rfl, trivial⟩ ?_)))
 have M := MSt.new (tid := 290) (sz := [16, 1]) hs hzl
 have hcs : w.heap.size < (w.alloc (.cells Z.toArray 290)).heap.size := by simp
 show W _ _ _ _ _ _ (w.alloc (.cells Z.toArray 290))
 generalize w.alloc (.cells Z.toArray 290) = w1 at M hcs ⊢
 refine W.sq (W.rg ?_)
 refine WL.mv rfl rfl ?_
 refine WL.cl Tryz.call120 rfl rfl (hX _ _ M.rst (M.nest.trans hnk)) ?_ ?_
 rotate_left
 · intro ch w' hf a ha
   exact tP (pP ha (M.fail_st rfl rfl hf))
 rintro _ w' g
 obtain ⟨c0, s', rfl, M, H0, _⟩ := M.call g
 refine WL.fa rfl (fld290_0 _ _ _) rfl ?_
 obtain ⟨w', hst, M⟩ := M.store (off := 0) 0 H0 iy66 rfl rfl
 refine WL.so rfl rfl hst ?_
 refine WL.kp [(0, ptr p), (2, ptr w.heap.size)] ⟨rfl, rfl, trivial⟩ ?_
 refine W.sq (W.rg ?_)
 refine WL.mv rfl rfl ?_
 refine WL.mv rfl rfl ?_
 refine WL.makeFunc rfl rfl rfl ?_
 refine WL.cl Tryz.call192 rfl rfl ((c192 (c193 hX)) _ _ M.rst (M.nest.trans hnk)) ?_ ?_
 rotate_left
 · intro ch w' hf a ha
   exact tP (pP ha (M.fail_st rfl rfl hf))
 rintro _ w' g
 obtain ⟨c1, s', rfl, M, H1, _⟩ := M.call g
 refine WL.fa rfl (fld290_1 _ _ _) rfl ?_
 obtain ⟨w', hst, M⟩ := M.store (off := 16) 1 H1 iy67 rfl rfl
 refine WL.so rfl rfl hst ?_
 refine WL.kp [(0, ptr p), (2, ptr w.heap.size)] ⟨rfl, rfl, trivial⟩ ?_
 obtain ⟨hl, h1, l, hchk, hrep⟩ := M.rep_st (sn := .source) rfl
 have B := M.blk.all
 obtain ⟨w', hst, M, _⟩ := M.self (N := 17) iy290 hl h1
 exact W.sq (W.rg (WL.ld rfl (loadN iy290 hl B) rfl (WL.so rfl rfl hst (WL.nx (W.ret fun a ha => post_cell rfl ha rfl (loadN iy290 hl M.blk.all) (M.good_st rfl rfl))))))
theorem c66 {n0 p k : Nat} (hX : RCall n0 p 120 (.st .expr) k) : RCall n0 p 66 (.st .key) k := by
 intro s w hs hnk
 obtain ⟨Z, hz, hzl⟩ : ∃ Z : List Value, (∀ w, (zeroValue 76).run Tryz.prog w = .ok (.agg Z.toArray) w) ∧ Z.length = sumN [1, 1, 16] := ⟨_, Tryz.zeroValue76, rfl⟩
 refine cW 15 Tryz.func66 rfl rfl rfl ?_
 refine W.sq (W.rg (WL.alloc (hz _) rfl (WL.kp [(0, ptr p), (2, ptr w.heap.size)] ⟨rfl, rfl, trivial⟩ ?_)))
 have M := MSt.new (tid := 76) (sz := [1, 1, 16]) hs hzl
 have hcs : w.heap.size < (w.alloc (.cells Z.toArray 76)).heap.size := by simp
 show W _ _ _ _ _ _ (w.alloc (.cells Z.toArray 76))
 generalize w.alloc (.cells Z.toArray 76) = w1 at M hcs ⊢
 refine W.sq (W.rg ?_)
 refine WL.mv rfl rfl ?_
 refine WL.cl Tryz.call56 rfl rfl (c56 _ _ M.rst (M.nest.trans hnk)) ?_ ?_
 rotate_left
 · intro ch w' hf a ha
   exact tP (pP ha (M.fail_st rfl rfl hf))
 rintro _ w' g
 obtain ⟨c0, s', rfl, M, H0, _⟩ := M.call g
 refine WL.fa rfl (fld76_0 _ _ _) rfl ?_
 obtain ⟨w', hst, M⟩ := M.store (off := 0) 0 H0 iy9 rfl rfl
 refine WL.so rfl rfl hst ?_
 refine WL.kp [(0, ptr p), (2, ptr w.heap.size)] ⟨rfl, rfl, trivial⟩ ?_
 refine W.sq (W.rg ?_)
 refine WL.mv rfl rfl ?_
 refine WL.mv rfl rfl ?_
 refine WL.makeFunc rfl rfl rfl ?_
 refine WL.cl Tryz.call119 rfl rfl ((c119 hX) _ _ M.rst (M.nest.trans hnk)) ?_ ?_
 rotate_left
 · intro ch w' hf a ha
   exact tP (pP ha (M.fail_st rfl rfl hf))
 rintro _ w' g
 obtain ⟨c1, s', rfl, M, H1, _⟩ := M.call g
 refine WL.fa rfl (fld76_1 _ _ _) rfl ?_
 obtain ⟨w', hst, M⟩ := M.store (off := 1) 1 H1 iy64 rfl rfl
 refine WL.so rfl rfl hst ?_
 refine WL.kp [(0, ptr p), (2, ptr w.heap.size)] ⟨rfl, rfl, trivial⟩ ?_
 refine W.sq (W.rg ?_)
 refine WL.mv rfl rfl ?_
 refine WL.cl Tryz.call120 rfl rfl (hX _ _ M.rst (M.nest.trans hnk)) ?_ ?_
 rotate_left
 · intro ch w' hf a ha
   exact tP (pP ha (M.fail_st rfl rfl hf))
 rintro _ w' g
 obtain ⟨c2, s', rfl, M, H2, _⟩ := M.call g
 refine WL.fa rfl (fld76_2 _ _ _) rfl ?_
 obtain ⟨w', hst, M⟩ := M.store (off := 2) 2 H2 iy66 rfl rfl
 refine WL.so rfl rfl hst ?_
 refine WL.kp [(0, ptr p), (2, ptr w.heap.size)] ⟨rfl, rfl, trivial⟩ ?_
 obtain ⟨hl, h1, l, hchk, hrep⟩ := M.rep_st (sn := .key) rfl
 have B := M.blk.all
 obtain ⟨w', hst, M, _⟩ := M.self (N := 18) iy76 hl h1
 exact W.sq (W.rg (WL.ld rfl (loadN iy76 hl B) rfl (WL.so rfl rfl hst (WL.nx (W.ret fun a ha => post_cell rfl ha rfl (loadN iy76 hl M.blk.all) (M.good_st rfl rfl))))))
theorem c128 {n0 p k : Nat} (hX : RCall n0 p 120 (.st .expr) k) : RCall n0 p 128 (.st .rule) k := by
 intro s w hs hnk
 obtain ⟨Z, hz, hzl⟩ : ∃ Z : List Value, (∀ w, (zeroValue 182).run Tryz.prog w = .ok (.agg Z.toArray) w) ∧ Z.length = sumN [1, 1, 16] := ⟨_, Tryz.zeroValue182, rfl⟩
 refine cW 15 Tryz.func128 rfl rfl rfl ?_
 refine W.sq (W.rg (WL.alloc (hz _) rfl (WL.kp [(0, ptr p), (2, ptr w.heap.size)] ⟨rfl, rfl, trivial⟩ ?_)))
 have M := MSt.new (tid := 182) (sz := [1, 1, 16]) hs hzl
 have hcs : w.heap.size < (w.alloc (.cells Z.toArray 182)).heap.size := by simp
 show W _ _ _ _ _ _ (w.alloc (.cells Z.toArray 182))
 generalize w.alloc (.cells Z.toArray 182) = w1 at M hcs ⊢
 refine W.sq (W.rg ?_)
 refine WL.mv rfl rfl ?_
 refine WL.mv rfl rfl ?_
 refine WL.makeFunc rfl rfl rfl ?_
 refine WL.cl Tryz.call119 rfl rfl ((c119 hX) _ _ M.rst (M.nest.trans hnk)) ?_ ?_
 rotate_left
 · intro ch w' hf a ha
   exact tP (pP ha (M.fail_st rfl rfl hf))
 rintro _ w' g
 obtain ⟨c0, s', rfl, M, H0, _⟩ := M.call g
 refine WL.fa rfl (fld182_0 _ _ _) rfl ?_
 obtain ⟨w', hst, M⟩ := M.store (off := 0) 0 H0 iy64 rfl rfl
 refine WL.so rfl rfl hst ?_
 refine WL.kp [(0, ptr p), (2, ptr w.heap.size)] ⟨rfl, rfl, trivial⟩ ?_
 refine W.sq (W.rg ?_)
 refine WL.mv rfl rfl ?_
 refine WL.cl Tryz.call117 rfl rfl (c117 _ _ M.rst (M.nest.trans hnk)) ?_ ?_
 rotate_left
 · intro ch w' hf a ha
   exact tP (pP ha (M.fail_st rfl rfl hf))
 rintro _ w' g
 obtain ⟨c1, s', rfl, M, H1, _⟩ := M.call g
 refine WL.mv rfl rfl ?_
 refine WL.cl Tryz.call120 rfl rfl (hX _ _ M.rst (M.nest.trans hnk)) ?_ ?_
 rotate_left
 · intro ch w' hf a ha
   exact tP (pP ha (M.fail_st rfl rfl hf))
 rintro _ w' g
 obtain ⟨c2, s', rfl, M, H2, _⟩ := M.call g
 refine WL.fa rfl (fld182_1 _ _ _) rfl ?_
 obtain ⟨w', hst, M⟩ := M.store (off := 1) 1 H1 iy4 rfl rfl
 refine WL.so rfl rfl hst ?_
 refine WL.fa rfl (fld182_2 _ _ _) rfl ?_
 obtain ⟨w', hst, M⟩ := M.store (off := 2) 2 H2 iy66 rfl rfl
 refine WL.so rfl rfl hst ?_
 refine WL.kp [(0, ptr p), (2, ptr w.heap.size)] ⟨rfl, rfl, trivial⟩ ?_
 obtain ⟨hl, h1, l, hchk, hrep⟩ := M.rep_st (sn := .rule) rfl
 have B := M.blk.all
 obtain ⟨w', hst, M, _⟩ := M.self (N := 18) iy182 hl h1
 exact W.sq (W.rg (WL.ld rfl (loadN iy182 hl B) rfl (WL.so rfl rfl hst (WL.nx (W.ret fun a ha => post_cell rfl ha rfl (loadN iy182 hl M.blk.all) (M.good_st rfl rfl))))))
theorem c68 {n0 p k : Nat} (hX : RCall n0 p 120 (.st .expr) k) : RCall n0 p 68 (.st .accum) k := by
 intro s w hs hnk
 obtain ⟨Z, hz, hzl⟩ : ∃ Z : List Value, (∀ w, (zeroValue 151).run Tryz.prog w = .ok (.agg Z.toArray) w) ∧ Z.length = sumN [1, 16, 1] := ⟨_, Tryz.zeroValue151, rfl⟩
 refine cW 15 Tryz.func68 rfl rfl rfl ?_
 refine W.sq (W.rg (WL.alloc (hz _) rfl (WL.kp [(0, ptr p), (2, ptr w.heap.size)] ⟨rfl, rfl, trivial⟩ ?_)))
 have M := MSt.new (tid := 151) (sz := [1, 16, 1]) hs hzl
 have hcs : w.heap.size < (w.alloc (.cells Z.toArray 151)).heap.size := by simp
 show W _ _ _ _ _ _ (w.alloc (.cells Z.toArray 151))
 generalize w.alloc (.cells Z.toArray 151) = w1 at M hcs ⊢
 refine W.sq (W.rg ?_)
 refine WL.mv rfl rfl ?_
 refine WL.cl Tryz.call56 rfl rfl (c56 _ _ M.rst (M.nest.trans hnk)) ?_ ?_
 rotate_left
 · intro ch w' hf a ha
   exact tP (pP ha (M.fail_st rfl rfl hf))
 rintro _ w' g
 obtain ⟨c0, s', rfl, M, H0, _⟩ := M.call g
 refine WL.mv rfl rfl ?_
 refine WL.cl Tryz.call120 rfl rfl (hX _ _ M.rst (M.nest.trans hnk)) ?_ ?_
 rotate_left
 · intro ch w' hf a ha
   exact tP (pP ha (M.fail_st rfl rfl hf))
 rintro _ w' g
 obtain ⟨c1, s', rfl, M, H1, _⟩ := M.call g
 refine WL.fa rfl (fld151_0 _ _ _) rfl ?_
 obtain ⟨w', hst, M⟩ := M.store (off := 0) 0 H0 iy9 rfl rfl
 refine WL.so rfl rfl hst ?_
 refine WL.fa rfl (fld151_1 _ _ _) rfl ?_
 obtain ⟨w', hst, M⟩ := M.store (off := 1) 1 H1 iy66 rfl rfl
 refine WL.so rfl rfl hst ?_
 refine WL.kp [(0, ptr p), (2, ptr w.heap.size)] ⟨rfl, rfl, trivial⟩ ?_
 refine W.sq (W.rg ?_)
 refine WL.mv rfl rfl ?_
 refine WL.mv rfl rfl ?_
 refine WL.makeFunc rfl rfl rfl ?_
 refine WL.cl Tryz.call127 rfl rfl ((c127 (c128 hX)) _ _ M.rst (M.nest.trans hnk)) ?_ ?_
 rotate_left
 · intro ch w' hf a ha
   exact tP (pP ha (M.fail_st rfl rfl hf))
 rintro _ w' g
 obtain ⟨c2, s', rfl, M, H2, _⟩ := M.call g
 refine WL.fa rfl (fld151_2 _ _ _) rfl ?_
 obtain ⟨w', hst, M⟩ := M.store (off := 17) 2 H2 iy149 rfl rfl
 refine WL.so rfl rfl hst ?_
 refine WL.kp [(0, ptr p), (2, ptr w.heap.size)] ⟨rfl, rfl, trivial⟩ ?_
 obtain ⟨hl, h1, l, hchk, hrep⟩ := M.rep_st (sn := .accum) rfl
 have B := M.blk.all
 obtain ⟨w', hst, M, _⟩ := M.self (N := 18) iy151 hl h1
 exact W.sq (W.rg (WL.ld rfl (loadN iy151 hl B) rfl (WL.so rfl rfl hst (WL.nx (W.ret fun a ha => post_cell rfl ha rfl (loadN iy151 hl M.blk.all) (M.good_st rfl rfl))))))
theorem c197 {n0 p k : Nat} (hI : RCall n0 p 125 (.st .instr) k) : RCall n0 p 197 (.st .ctch) k := by
 intro s w hs hnk
 obtain ⟨Z, hz, hzl⟩ : ∃ Z : List Value, (∀ w, (zeroValue 294).run Tryz.prog w = .ok (.agg Z.toArray) w) ∧ Z.length = sumN [1, 1] := ⟨_, Tryz.zeroValue294, rfl⟩
 refine cW 14 Tryz.func197 rfl rfl rfl ?_
 refine W.sq (W.rg (WL.alloc (hz _) rfl (WL.kp [(0, ptr p), (2, ptr w.heap.size)] ⟨rfl, rfl, trivial⟩ ?_)))
 have M := MSt.new (tid := 294) (sz := [1, 1]) hs hzl
 have hcs : w.heap.size < (w.alloc (.cells Z.toArray 294)).heap.size := by simp
 show W _ _ _ _ _ _ (w.alloc (.cells Z.toArray 294))
 generalize w.alloc (.cells Z.toArray 294) = w1 at M hcs ⊢
 refine W.sq (W.rg ?_)
 refine WL.mv rfl rfl ?_
 refine WL.mv rfl rfl ?_
 refine WL.makeFunc rfl rfl rfl ?_
 refine WL.cl Tryz.call241 rfl rfl ((c241 c118) _ _ M.rst (M.nest.trans hnk)) ?_ ?_
 rotate_left
 · intro ch w' hf a ha
   exact tP (pP ha (M.fail_st rfl rfl hf))
 rintro _ w' g
 obtain ⟨c0, s', rfl, M, H0, _⟩ := M.call g
 refine WL.fa rfl (fld294_0 _ _ _) rfl ?_
 obtain ⟨w', hst, M⟩ := M.store (off := 0) 0 H0 iy262 rfl rfl
 refine WL.so rfl rfl hst ?_
 refine WL.kp [(0, ptr p), (2, ptr w.heap.size)] ⟨rfl, rfl, trivial⟩ ?_
 refine W.sq (W.rg ?_)
 refine WL.mv rfl rfl ?_
 refine WL.mv rfl rfl ?_
 refine WL.makeFunc rfl rfl rfl ?_
 refine WL.cl Tryz.call124 rfl rfl ((c124 hI) _ _ M.rst (M.nest.trans hnk)) ?_ ?_
 rotate_left
 · intro ch w' hf a ha
   exact tP (pP ha (M.fail_st rfl rfl hf))
 rintro _ w' g
 obtain ⟨c1, s', rfl, M, H1, _⟩ := M.call g
 refine WL.fa rfl (fld294_1 _ _ _) rfl ?_
 obtain ⟨w', hst, M⟩ := M.store (off := 1) 1 H1 iy56 rfl rfl
 refine WL.so rfl rfl hst ?_
 refine WL.kp [(0, ptr p), (2, ptr w.heap.size)] ⟨rfl, rfl, trivial⟩ ?_
 obtain ⟨hl, h1, l, hchk, hrep⟩ := M.rep_st (sn := .ctch) rfl
 have B := M.blk.all
 obtain ⟨w', hst, M, _⟩ := M.self (N := 2) iy294 hl h1
 exact W.sq (W.rg (WL.ld rfl (loadN iy294 hl B) rfl (WL.so rfl rfl hst (WL.nx (W.ret fun a ha => post_cell rfl ha rfl (loadN iy294 hl M.blk.all) (M.good_st rfl rfl))))))
theorem c123 {n0 p k : Nat} (hX : RCall n0 p 120 (.st .expr) k) (hI : RCall n0 p 125 (.st .instr) k) : RCall n0 p 123 (.st .param) k := by
 intro s w hs hnk
 obtain ⟨Z, hz, hzl⟩ : ∃ Z : List Value, (∀ w, (zeroValue 216).run Tryz.prog w = .ok (.agg Z.toArray) w) ∧ Z.length = sumN [1, 5, 1, 16, 1] := ⟨_, Tryz.zeroValue216, rfl⟩
 refine cW 21 Tryz.func123 rfl rfl rfl ?_
 refine W.sq (W.rg (WL.alloc (hz _) rfl (WL.kp [(0, ptr p), (2, ptr w.heap.size)] ⟨rfl, rfl, trivial⟩ ?_)))
 have M := MSt.new (tid := 216) (sz := [1, 5, 1, 16, 1]) hs hzl
 have hcs : w.heap.size < (w.alloc (.cells Z.toArray 216)).heap.size := by simp
 show W _ _ _ _ _ _ (w.alloc (.cells Z.toArray 216))
 generalize w.alloc (.cells Z.toArray 216) = w1 at M hcs ⊢
 refine W.sq (W.rg ?_)
 refine WL.mv rfl rfl ?_
 refine WL.cl Tryz.call56 rfl rfl (c56 _ _ M.rst (M.nest.trans hnk)) ?_ ?_
 rotate_left
 · intro ch w' hf a ha
   exact tP (pP ha (M.fail_st rfl rfl hf))
 rintro _ w' g
 obtain ⟨c0, s', rfl, M, H0, _⟩ := M.call g
 refine WL.mv rfl rfl ?_
 refine WL.cl Tryz.call126 rfl rfl (c126 _ _ M.rst (M.nest.trans hnk)) ?_ ?_
 rotate_left
 · intro ch w' hf a ha
   exact tP (pP ha (M.fail_st rfl rfl hf))
 rintro _ w' g
 obtain ⟨c1, s', rfl, M, H1, _⟩ := M.call g
 refine WL.mv rfl rfl ?_
 refine WL.cl Tryz.call117 rfl rfl (c117 _ _ M.rst (M.nest.trans hnk)) ?_ ?_
 rotate_left
 · intro ch w' hf a ha
   exact tP (pP ha (M.fail_st rfl rfl hf))
 rintro _ w' g
 obtain ⟨c2, s', rfl, M, H2, _⟩ := M.call g
 refine WL.mv rfl rfl ?_
 refine WL.cl Tryz.call120 rfl rfl (hX _ _ M.rst (M.nest.trans hnk)) ?_ ?_
 rotate_left
 · intro ch w' hf a ha
   exact tP (pP ha (M.fail_st rfl rfl hf))
 rintro _ w' g
 obtain ⟨c3, s', rfl, M, H3, _⟩ := M.call g
 refine WL.fa rfl (fld216_0 _ _ _) rfl ?_
 obtain ⟨w', hst, M⟩ := M.store (off := 0) 0 H0 iy9 rfl rfl
 refine WL.so rfl rfl hst ?_
 refine WL.fa rfl (fld216_1 _ _ _) rfl ?_
 obtain ⟨w', hst, M⟩ := M.store (off := 1) 1 H1 iy63 rfl rfl
 refine WL.so rfl rfl hst ?_
 refine WL.fa rfl (fld216_2 _ _ _) rfl ?_
 obtain ⟨w', hst, M⟩ := M.store (off := 6) 2 H2 iy4 rfl rfl
 refine WL.so rfl rfl hst ?_
 refine WL.fa rfl (fld216_3 _ _ _) rfl ?_
 obtain ⟨w', hst, M⟩ := M.store (off := 7) 3 H3 iy66 rfl rfl
 refine WL.so rfl rfl hst ?_
 refine WL.kp [(0, ptr p), (2, ptr w.heap.size)] ⟨rfl, rfl, trivial⟩ ?_
 refine W.sq (W.rg ?_)
 refine WL.mv rfl rfl ?_
 refine WL.mv rfl rfl ?_
 refine WL.makeFunc rfl rfl rfl ?_
 refine WL.cl Tryz.call124 rfl rfl ((c124 hI) _ _ M.rst (M.nest.trans hnk)) ?_ ?_
 rotate_left
 · intro ch w' hf a ha
   exact tP (pP ha (M.fail_st rfl rfl hf))
 rintro _ w' g
 obtain ⟨c4, s', rfl, M, H4, _⟩ := M.call g
 refine WL.fa rfl (fld216_4 _ _ _) rfl ?_
 obtain ⟨w', hst, M⟩ := M.store (off := 23) 4 H4 iy56 rfl rfl
 refine WL.so rfl rfl hst ?_
 refine WL.kp [(0, ptr p), (2, ptr w.heap.size)] ⟨rfl, rfl, trivial⟩ ?_
 obtain ⟨hl, h1, l, hchk, hrep⟩ := M.rep_st (sn := .param) rfl
 have B := M.blk.all
 obtain ⟨w', hst, M, _⟩ := M.self (N := 24) iy216 hl h1
 exact W.sq (W.rg (WL.ld rfl (loadN iy216 hl B) rfl (WL.so rfl rfl hst (WL.nx (W.ret fun a ha => post_cell rfl ha rfl (loadN iy216 hl M.blk.all) (M.good_st rfl rfl))))))
theorem c60 {n0 p k : Nat} (hX : RCall n0 p 120 (.st .expr) k) (hI : RCall n0 p 125 (.st .instr) k) : RCall n0 p 60 (.st .template) k := by
 intro s w hs hnk
 obtain ⟨Z, hz, hzl⟩ : ∃ Z : List Value, (∀ w, (zeroValue 74).run Tryz.prog w = .ok (.agg Z.toArray) w) ∧ Z.length = sumN [1, 1, 1, 1, 1, 1, 1, 1, 1, 1, 1, 1] := ⟨_, Tryz.zeroValue74, rfl⟩
 refine cW 48 Tryz.func60 rfl rfl rfl ?_
 refine W.sq (W.rg (WL.alloc (hz _) rfl (WL.kp [(0, ptr p), (2, ptr w.heap.size)] ⟨rfl, rfl, trivial⟩ ?_)))
 have M := MSt.new (tid := 74) (sz := [1, 1, 1, 1, 1, 1, 1, 1, 1, 1, 1, 1]) hs hzl
 have hcs : w.heap.size < (w.alloc (.cells Z.toArray 74)).heap.size := by simp
 show W _ _ _ _ _ _ (w.alloc (.cells Z.toArray 74))
 generalize w.alloc (.cells Z.toArray 74) = w1 at M hcs ⊢
 refine W.sq (W.rg ?_)
 refine WL.mv rfl rfl ?_
 refine WL.mv rfl rfl ?_
 refine WL.makeFunc rfl rfl rfl ?_
 refine WL.cl Tryz.call119 rfl rfl ((c119 hX) _ _ M.rst (M.nest.trans hnk)) ?_ ?_
 rotate_left
 · intro ch w' hf a ha
   exact tP (pP ha (M.fail_st rfl rfl hf))
 rintro _ w' g
 obtain ⟨c0, s', rfl, M, H0, _⟩ := M.call g
 refine WL.fa rfl (fld74_0 _ _ _) rfl ?_
 obtain ⟨w', hst, M⟩ := M.store (off := 0) 0 H0 iy64 rfl rfl
 refine WL.so rfl rfl hst ?_
 refine WL.kp [(0, ptr p), (2, ptr w.heap.size)] ⟨rfl, rfl, trivial⟩ ?_
 refine W.sq (W.rg ?_)
 refine WL.mv rfl rfl ?_
 refine WL.cl Tryz.call56 rfl rfl (c56 _ _ M.rst (M.nest.trans hnk)) ?_ ?_
 rotate_left
 · intro ch w' hf a ha
   exact tP (pP ha (M.fail_st rfl rfl hf))
 rintro _ w' g
 obtain ⟨c1, s', rfl, M, H1, _⟩ := M.call g
 refine WL.fa rfl (fld74_1 _ _ _) rfl ?_
 obtain ⟨w', hst, M⟩ := M.store (off := 1) 1 H1 iy9 rfl rfl
 refine WL.so rfl rfl hst ?_
 refine WL.kp [(0, ptr p), (2, ptr w.heap.size)] ⟨rfl, rfl, trivial⟩ ?_
 refine W.sq (W.rg ?_)
 refine WL.mv rfl rfl ?_
 refine WL.mv rfl rfl ?_
 refine WL.makeFunc rfl rfl rfl ?_
 refine WL.cl Tryz.call121 rfl rfl ((c121 c56) _ _ M.rst (M.nest.trans hnk)) ?_ ?_
 rotate_left
 · intro ch w' hf a ha
   exact tP (pP ha (M.fail_st rfl rfl hf))
 rintro _ w' g
 obtain ⟨c2, s', rfl, M, H2, _⟩ := M.call g
 refine WL.fa rfl (fld74_2 _ _ _) rfl ?_
 obtain ⟨w', hst, M⟩ := M.store (off := 2) 2 H2 iy44 rfl rfl
 refine WL.so rfl rfl hst ?_
 refine WL.kp [(0, ptr p), (2, ptr w.heap.size)] ⟨rfl, rfl, trivial⟩ ?_
 refine W.sq (W.rg ?_)
 refine WL.mv rfl rfl ?_
 refine WL.cl Tryz.call117 rfl rfl (c117 _ _ M.rst (M.nest.trans hnk)) ?_ ?_
 rotate_left
 · intro ch w' hf a ha
   exact tP (pP ha (M.fail_st rfl rfl hf))
 rintro _ w' g
 obtain ⟨c3, s', rfl, M, H3, _⟩ := M.call g
 refine WL.mv rfl rfl ?_
 refine WL.cl Tryz.call56 rfl rfl (c56 _ _ M.rst (M.nest.trans hnk)) ?_ ?_
 rotate_left
 · intro ch w' hf a ha
   exact tP (pP ha (M.fail_st rfl rfl hf))
 rintro _ w' g
 obtain ⟨c4, s', rfl, M, H4, _⟩ := M.call g
 refine WL.fa rfl (fld74_3 _ _ _) rfl ?_
 obtain ⟨w', hst, M⟩ := M.store (off := 3) 3 H3 iy4 rfl rfl
 refine WL.so rfl rfl hst ?_
 refine WL.fa rfl (fld74_4 _ _ _) rfl ?_
 obtain ⟨w', hst, M⟩ := M.store (off := 4) 4 H4 iy9 rfl rfl
 refine WL.so rfl rfl hst ?_
 refine WL.kp [(0, ptr p), (2, ptr w.heap.size)] ⟨rfl, rfl, trivial⟩ ?_
 refine W.sq (W.rg ?_)
 refine WL.mv rfl rfl ?_
 refine WL.mv rfl rfl ?_
 refine WL.makeFunc rfl rfl rfl ?_
 refine WL.cl Tryz.call122 rfl rfl ((c122 (c123 hX hI)) _ _ M.rst (M.nest.trans hnk)) ?_ ?_
 rotate_left
 · intro ch w' hf a ha
   exact tP (pP ha (M.fail_st rfl rfl hf))
 rintro _ w' g
 obtain ⟨c5, s', rfl, M, H5, _⟩ := M.call g
 refine WL.fa rfl (fld74_5 _ _ _) rfl ?_
 obtain ⟨w', hst, M⟩ := M.store (off := 5) 5 H5 iy68 rfl rfl
 refine WL.so rfl rfl hst ?_
 refine WL.kp [(0, ptr p), (2, ptr w.heap.size)] ⟨rfl, rfl, trivial⟩ ?_
 refine W.sq (W.rg ?_)
 refine WL.mv rfl rfl ?_
 refine WL.mv rfl rfl ?_
 refine WL.makeFunc rfl rfl rfl ?_
 refine WL.cl Tryz.call124 rfl rfl ((c124 hI) _ _ M.rst (M.nest.trans hnk)) ?_ ?_
 rotate_left
 · intro ch w' hf a ha
   exact tP (pP ha (M.fail_st rfl rfl hf))
 rintro _ w' g
 obtain ⟨c6, s', rfl, M, H6, _⟩ := M.call g
 refine WL.fa rfl (fld74_6 _ _ _) rfl ?_
 obtain ⟨w', hst, M⟩ := M.store (off := 6) 6 H6 iy56 rfl rfl
 refine WL.so rfl rfl hst ?_
 refine WL.kp [(0, ptr p), (2, ptr w.heap.size)] ⟨rfl, rfl, trivial⟩ ?_
 refine W.sq (W.rg ?_)
 refine WL.mv rfl rfl ?_
 refine WL.cl Tryz.call56 rfl rfl (c56 _ _ M.rst (M.nest.trans hnk)) ?_ ?_
 rotate_left
 · intro ch w' hf a ha
   exact tP (pP ha (M.fail_st rfl rfl hf))
 rintro _ w' g
 obtain ⟨c7, s', rfl, M, H7, _⟩ := M.call g
 refine WL.mv rfl rfl ?_
 refine WL.cl Tryz.call118 rfl rfl (c118 _ _ M.rst (M.nest.trans hnk)) ?_ ?_
 rotate_left
 · intro ch w' hf a ha
   exact tP (pP ha (M.fail_st rfl rfl hf))
 rintro _ w' g
 obtain ⟨c8, s', rfl, M, H8, _⟩ := M.call g
 refine WL.mv rfl rfl ?_
 refine WL.cl Tryz.call118 rfl rfl (c118 _ _ M.rst (M.nest.trans hnk)) ?_ ?_
 rotate_left
 · intro ch w' hf a ha
   exact tP (pP ha (M.fail_st rfl rfl hf))
 rintro _ w' g
 obtain ⟨c9, s', rfl, M, H9, _⟩ := M.call g
 refine WL.mv rfl rfl ?_
 refine WL.cl Tryz.call118 rfl rfl (c118 _ _ M.rst (M.nest.trans hnk)) ?_ ?_
 rotate_left
 · intro ch w' hf a ha
   exact tP (pP ha (M.fail_st rfl rfl hf))
 rintro _ w' g
 obtain ⟨c10, s', rfl, M, H10, _⟩ := M.call g
 refine WL.mv rfl rfl ?_
 refine WL.cl Tryz.call118 rfl rfl (c118 _ _ M.rst (M.nest.trans hnk)) ?_ ?_
 rotate_left
 · intro ch w' hf a ha
   exact tP (pP ha (M.fail_st rfl rfl hf))
 rintro _ w' g
 obtain ⟨c11, s', rfl, M, H11, _⟩ := M.call g
 refine WL.fa rfl (fld74_7 _ _ _) rfl ?_
 obtain ⟨w', hst, M⟩ := M.store (off := 7) 7 H7 iy9 rfl rfl
 refine WL.so rfl rfl hst ?_
 refine WL.fa rfl (fld74_8 _ _ _) rfl ?_
 obtain ⟨w', hst, M⟩ := M.store (off := 8) 8 H8 iy3 rfl rfl
 refine WL.so rfl rfl hst ?_
 refine WL.fa rfl (fld74_9 _ _ _) rfl ?_
 obtain ⟨w', hst, M⟩ := M.store (off := 9) 9 H9 iy3 rfl rfl
 refine WL.so rfl rfl hst ?_
 refine WL.fa rfl (fld74_10 _ _ _) rfl ?_
 obtain ⟨w', hst, M⟩ := M.store (off := 10) 10 H10 iy3 rfl rfl
 refine WL.so rfl rfl hst ?_
 refine WL.fa rfl (fld74_11 _ _ _) rfl ?_
 obtain ⟨w', hst, M⟩ := M.store (off := 11) 11 H11 iy3 rfl rfl
 refine WL.so rfl rfl hst ?_
 refine WL.kp [(0, ptr p), (2, ptr w.heap.size)] ⟨rfl, rfl, trivial⟩ ?_
 obtain ⟨hl, h1, l, hchk, hrep⟩ := M.rep_st (sn := .template) rfl
 have B := M.blk.all
 obtain ⟨w', hst, M, _⟩ := M.self (N := 12) iy74 hl h1
 exact W.sq (W.rg (WL.ld rfl (loadN iy74 hl B) rfl (WL.so rfl rfl hst (WL.nx (W.ret fun a ha => post_cell rfl ha rfl (loadN iy74 hl M.blk.all) (M.good_st rfl rfl))))))
theorem c62 {n0 p k : Nat} (hX : RCall n0 p 120 (.st .expr) k) (hI : RCall n0 p 125 (.st .instr) k) : RCall n0 p 62 (.st .dfn) k := by
 intro s w hs hnk
 obtain ⟨Z, hz, hzl⟩ : ∃ Z : List Value, (∀ w, (zeroValue 140).run Tryz.prog w = .ok (.agg Z.toArray) w) ∧ Z.length = sumN [1, 1, 5, 16, 1, 1, 1, 1] := ⟨_, Tryz.zeroValue140, rfl⟩
 refine cW 30 Tryz.func62 rfl rfl rfl ?_
 refine W.sq (W.rg (WL.alloc (hz _) rfl (WL.kp [(0, ptr p), (2, ptr w.heap.size)] ⟨rfl, rfl, trivial⟩ ?_)))
 have M := MSt.new (tid := 140) (sz := [1, 1, 5, 16, 1, 1, 1, 1]) hs hzl
 have hcs : w.heap.size < (w.alloc (.cells Z.toArray 140)).heap.size := by simp
 show W _ _ _ _ _ _ (w.alloc (.cells Z.toArray 140))
 generalize w.alloc (.cells Z.toArray 140) = w1 at M hcs ⊢
 refine W.sq (W.rg ?_)
 refine WL.mv rfl rfl ?_
 refine WL.cl Tryz.call56 rfl rfl (c56 _ _ M.rst (M.nest.trans hnk)) ?_ ?_
 rotate_left
 · intro ch w' hf a ha
   exact tP (pP ha (M.fail_st rfl rfl hf))
 rintro _ w' g
 obtain ⟨c0, s', rfl, M, H0, _⟩ := M.call g
 refine WL.fa rfl (fld140_0 _ _ _) rfl ?_
 obtain ⟨w', hst, M⟩ := M.store (off := 0) 0 H0 iy9 rfl rfl
 refine WL.so rfl rfl hst ?_
 refine WL.kp [(0, ptr p), (2, ptr w.heap.size)] ⟨rfl, rfl, trivial⟩ ?_
 refine W.sq (W.rg ?_)
 refine WL.mv rfl rfl ?_
 refine WL.mv rfl rfl ?_
 refine WL.makeFunc rfl rfl rfl ?_
 refine WL.cl Tryz.call122 rfl rfl ((c122 (c123 hX hI)) _ _ M.rst (M.nest.trans hnk)) ?_ ?_
 rotate_left
 · intro ch w' hf a ha
   exact tP (pP ha (M.fail_st rfl rfl hf))
 rintro _ w' g
 obtain ⟨c1, s', rfl, M, H1, _⟩ := M.call g
 refine WL.fa rfl (fld140_1 _ _ _) rfl ?_
 obtain ⟨w', hst, M⟩ := M.store (off := 1) 1 H1 iy68 rfl rfl
 refine WL.so rfl rfl hst ?_
 refine WL.kp [(0, ptr p), (2, ptr w.heap.size)] ⟨rfl, rfl, trivial⟩ ?_
 refine W.sq (W.rg ?_)
 refine WL.mv rfl rfl ?_
 refine WL.cl Tryz.call126 rfl rfl (c126 _ _ M.rst (M.nest.trans hnk)) ?_ ?_
 rotate_left
 · intro ch w' hf a ha
   exact tP (pP ha (M.fail_st rfl rfl hf))
 rintro _ w' g
 obtain ⟨c2, s', rfl, M, H2, _⟩ := M.call g
 refine WL.mv rfl rfl ?_
 refine WL.cl Tryz.call120 rfl rfl (hX _ _ M.rst (M.nest.trans hnk)) ?_ ?_
 rotate_left
 · intro ch w' hf a ha
   exact tP (pP ha (M.fail_st rfl rfl hf))
 rintro _ w' g
 obtain ⟨c3, s', rfl, M, H3, _⟩ := M.call g
 refine WL.fa rfl (fld140_2 _ _ _) rfl ?_
 obtain ⟨w', hst, M⟩ := M.store (off := 2) 2 H2 iy63 rfl rfl
 refine WL.so rfl rfl hst ?_
 refine WL.fa rfl (fld140_3 _ _ _) rfl ?_
 obtain ⟨w', hst, M⟩ := M.store (off := 7) 3 H3 iy66 rfl rfl
 refine WL.so rfl rfl hst ?_
 refine WL.kp [(0, ptr p), (2, ptr w.heap.size)] ⟨rfl, rfl, trivial⟩ ?_
 refine W.sq (W.rg ?_)
 refine WL.mv rfl rfl ?_
 refine WL.cl Tryz.call56 rfl rfl (c56 _ _ M.rst (M.nest.trans hnk)) ?_ ?_
 rotate_left
 · intro ch w' hf a ha
   exact tP (pP ha (M.fail_st rfl rfl hf))
 rintro _ w' g
 obtain ⟨c4, s', rfl, M, H4, _⟩ := M.call g
 refine WL.mv rfl rfl ?_
 refine WL.cl Tryz.call118 rfl rfl (c118 _ _ M.rst (M.nest.trans hnk)) ?_ ?_
 rotate_left
 · intro ch w' hf a ha
   exact tP (pP ha (M.fail_st rfl rfl hf))
 rintro _ w' g
 obtain ⟨c5, s', rfl, M, H5, _⟩ := M.call g
 refine WL.mv rfl rfl ?_
 refine WL.cl Tryz.call118 rfl rfl (c118 _ _ M.rst (M.nest.trans hnk)) ?_ ?_
 rotate_left
 · intro ch w' hf a ha
   exact tP (pP ha (M.fail_st rfl rfl hf))
 rintro _ w' g
 obtain ⟨c6, s', rfl, M, H6, _⟩ := M.call g
 refine WL.mv rfl rfl ?_
 refine WL.cl Tryz.call118 rfl rfl (c118 _ _ M.rst (M.nest.trans hnk)) ?_ ?_
 rotate_left
 · intro ch w' hf a ha
   exact tP (pP ha (M.fail_st rfl rfl hf))
 rintro _ w' g
 obtain ⟨c7, s', rfl, M, H7, _⟩ := M.call g
 refine WL.fa rfl (fld140_4 _ _ _) rfl ?_
 obtain ⟨w', hst, M⟩ := M.store (off := 23) 4 H4 iy9 rfl rfl
 refine WL.so rfl rfl hst ?_
 refine WL.fa rfl (fld140_5 _ _ _) rfl ?_
 obtain ⟨w', hst, M⟩ := M.store (off := 24) 5 H5 iy3 rfl rfl
 refine WL.so rfl rfl hst ?_
 refine WL.fa rfl (fld140_6 _ _ _) rfl ?_
 obtain ⟨w', hst, M⟩ := M.store (off := 25) 6 H6 iy3 rfl rfl
 refine WL.so rfl rfl hst ?_
 refine WL.fa rfl (fld140_7 _ _ _) rfl ?_
 obtain ⟨w', hst, M⟩ := M.store (off := 26) 7 H7 iy3 rfl rfl
 refine WL.so rfl rfl hst ?_
 refine WL.kp [(0, ptr p), (2, ptr w.heap.size)] ⟨rfl, rfl, trivial⟩ ?_
 obtain ⟨hl, h1, l, hchk, hrep⟩ := M.rep_st (sn := .dfn) rfl
 have B := M.blk.all
 obtain ⟨w', hst, M, _⟩ := M.self (N := 27) iy140 hl h1
 exact W.sq (W.rg (WL.ld rfl (loadN iy140 hl B) rfl (WL.so rfl rfl hst (WL.nx (W.ret fun a ha => post_cell rfl ha rfl (loadN iy140 hl M.blk.all) (M.good_st rfl rfl))))))
theorem c64 {n0 p k : Nat} (hX : RCall n0 p 120 (.st .expr) k) (hI : RCall n0 p 125 (.st .instr) k) : RCall n0 p 64 (.st .global) k := by
 intro s w hs hnk
 obtain ⟨Z, hz, hzl⟩ : ∃ Z : List Value, (∀ w, (zeroValue 144).run Tryz.prog w = .ok (.agg Z.toArray) w) ∧ Z.length = sumN [1, 1, 5, 1, 16, 1, 1, 1, 1, 1] := ⟨_, Tryz.zeroValue144, rfl⟩
 refine cW 36 Tryz.func64 rfl rfl rfl ?_
 refine W.sq (W.rg (WL.alloc (hz _) rfl (WL.kp [(0, ptr p), (2, ptr w.heap.size)] ⟨rfl, rfl, trivial⟩ ?_)))
 have M := MSt.new (tid := 144) (sz := [1, 1, 5, 1, 16, 1, 1, 1, 1, 1]) hs hzl
 have hcs : w.heap.size < (w.alloc (.cells Z.toArray 144)).heap.size := by simp
 show W _ _ _ _ _ _ (w.alloc (.cells Z.toArray 144))
 generalize w.alloc (.cells Z.toArray 144) = w1 at M hcs ⊢
 refine W.sq (W.rg ?_)
 refine WL.mv rfl rfl ?_
 refine WL.cl Tryz.call56 rfl rfl (c56 _ _ M.rst (M.nest.trans hnk)) ?_ ?_
 rotate_left
 · intro ch w' hf a ha
   exact tP (pP ha (M.fail_st rfl rfl hf))
 rintro _ w' g
 obtain ⟨c0, s', rfl, M, H0, _⟩ := M.call g
 refine WL.mv rfl rfl ?_
 refine WL.cl Tryz.call117 rfl rfl (c117 _ _ M.rst (M.nest.trans hnk)) ?_ ?_
 rotate_left
 · intro ch w' hf a ha
   exact tP (pP ha (M.fail_st rfl rfl hf))
 rintro _ w' g
 obtain ⟨c1, s', rfl, M, H1, _⟩ := M.call g
 refine WL.mv rfl rfl ?_
 refine WL.cl Tryz.call126 rfl rfl (c126 _ _ M.rst (M.nest.trans hnk)) ?_ ?_
 rotate_left
 · intro ch w' hf a ha
   exact tP (pP ha (M.fail_st rfl rfl hf))
 rintro _ w' g
 obtain ⟨c2, s', rfl, M, H2, _⟩ := M.call g
 refine WL.mv rfl rfl ?_
 refine WL.cl Tryz.call117 rfl rfl (c117 _ _ M.rst (M.nest.trans hnk)) ?_ ?_
 rotate_left
 · intro ch w' hf a ha
   exact tP (pP ha (M.fail_st rfl rfl hf))
 rintro _ w' g
 obtain ⟨c3, s', rfl, M, H3, _⟩ := M.call g
 refine WL.mv rfl rfl ?_
 refine WL.cl Tryz.call120 rfl rfl (hX _ _ M.rst (M.nest.trans hnk)) ?_ ?_
 rotate_left
 · intro ch w' hf a ha
   exact tP (pP ha (M.fail_st rfl rfl hf))
 rintro _ w' g
 obtain ⟨c4, s', rfl, M, H4, _⟩ := M.call g
 refine WL.fa rfl (fld144_0 _ _ _) rfl ?_
 obtain ⟨w', hst, M⟩ := M.store (off := 0) 0 H0 iy9 rfl rfl
 refine WL.so rfl rfl hst ?_
 refine WL.fa rfl (fld144_1 _ _ _) rfl ?_
 obtain ⟨w', hst, M⟩ := M.store (off := 1) 1 H1 iy4 rfl rfl
 refine WL.so rfl rfl hst ?_
 refine WL.fa rfl (fld144_2 _ _ _) rfl ?_
 obtain ⟨w', hst, M⟩ := M.store (off := 2) 2 H2 iy63 rfl rfl
 refine WL.so rfl rfl hst ?_
 refine WL.fa rfl (fld144_3 _ _ _) rfl ?_
 obtain ⟨w', hst, M⟩ := M.store (off := 7) 3 H3 iy4 rfl rfl
 refine WL.so rfl rfl hst ?_
 refine WL.fa rfl (fld144_4 _ _ _) rfl ?_
 obtain ⟨w', hst, M⟩ := M.store (off := 8) 4 H4 iy66 rfl rfl
 refine WL.so rfl rfl hst ?_
 refine WL.kp [(0, ptr p), (2, ptr w.heap.size)] ⟨rfl, rfl, trivial⟩ ?_
 refine W.sq (W.rg ?_)
 refine WL.mv rfl rfl ?_
 refine WL.mv rfl rfl ?_
 refine WL.makeFunc rfl rfl rfl ?_
 refine WL.cl Tryz.call124 rfl rfl ((c124 hI) _ _ M.rst (M.nest.trans hnk)) ?_ ?_
 rotate_left
 · intro ch w' hf a ha
   exact tP (pP ha (M.fail_st rfl rfl hf))
 rintro _ w' g
 obtain ⟨c5, s', rfl, M, H5, _⟩ := M.call g
 refine WL.fa rfl (fld144_5 _ _ _) rfl ?_
 obtain ⟨w', hst, M⟩ := M.store (off := 24) 5 H5 iy56 rfl rfl
 refine WL.so rfl rfl hst ?_
 refine WL.kp [(0, ptr p), (2, ptr w.heap.size)] ⟨rfl, rfl, trivial⟩ ?_
 refine W.sq (W.rg ?_)
 refine WL.mv rfl rfl ?_
 refine WL.cl Tryz.call56 rfl rfl (c56 _ _ M.rst (M.nest.trans hnk)) ?_ ?_
 rotate_left
 · intro ch w' hf a ha
   exact tP (pP ha (M.fail_st rfl rfl hf))
 rintro _ w' g
 obtain ⟨c6, s', rfl, M, H6, _⟩ := M.call g
 refine WL.mv rfl rfl ?_
 refine WL.cl Tryz.call118 rfl rfl (c118 _ _ M.rst (M.nest.trans hnk)) ?_ ?_
 rotate_left
 · intro ch w' hf a ha
   exact tP (pP ha (M.fail_st rfl rfl hf))
 rintro _ w' g
 obtain ⟨c7, s', rfl, M, H7, _⟩ := M.call g
 refine WL.mv rfl rfl ?_
 refine WL.cl Tryz.call118 rfl rfl (c118 _ _ M.rst (M.nest.trans hnk)) ?_ ?_
 rotate_left
 · intro ch w' hf a ha
   exact tP (pP ha (M.fail_st rfl rfl hf))
 rintro _ w' g
 obtain ⟨c8, s', rfl, M, H8, _⟩ := M.call g
 refine WL.mv rfl rfl ?_
 refine WL.cl Tryz.call118 rfl rfl (c118 _ _ M.rst (M.nest.trans hnk)) ?_ ?_
 rotate_left
 · intro ch w' hf a ha
   exact tP (pP ha (M.fail_st rfl rfl hf))
 rintro _ w' g
 obtain ⟨c9, s', rfl, M, H9, _⟩ := M.call g
 refine WL.fa rfl (fld144_6 _ _ _) rfl ?_
 obtain ⟨w', hst, M⟩ := M.store (off := 25) 6 H6 iy9 rfl rfl
 refine WL.so rfl rfl hst ?_
 refine WL.fa rfl (fld144_7 _ _ _) rfl ?_
 obtain ⟨w', hst, M⟩ := M.store (off := 26) 7 H7 iy3 rfl rfl
 refine WL.so rfl rfl hst ?_
 refine WL.fa rfl (fld144_8 _ _ _) rfl ?_
 obtain ⟨w', hst, M⟩ := M.store (off := 27) 8 H8 iy3 rfl rfl
 refine WL.so rfl rfl hst ?_
 refine WL.fa rfl (fld144_9 _ _ _) rfl ?_
 obtain ⟨w', hst, M⟩ := M.store (off := 28) 9 H9 iy3 rfl rfl
 refine WL.so rfl rfl hst ?_
 refine WL.kp [(0, ptr p), (2, ptr w.heap.size)] ⟨rfl, rfl, trivial⟩ ?_
 obtain ⟨hl, h1, l, hchk, hrep⟩ := M.rep_st (sn := .global) rfl
 have B := M.blk.all
 obtain ⟨w', hst, M, _⟩ := M.self (N := 29) iy144 hl h1
 exact W.sq (W.rg (WL.ld rfl (loadN iy144 hl B) rfl (WL.so rfl rfl hst (WL.nx (W.ret fun a ha => post_cell rfl ha rfl (loadN iy144 hl M.blk.all) (M.good_st rfl rfl))))))
end Go.Sx
namespace Go.Sx
open Go.Proofs
def exprFlat : List Ty := [.int, .str, .str, .int, .int, .str, .int, .st .test, .st .type, .list .str, .list (.st .expr)]
theorem chkF_atom : ∀ (pre post : List Ty) (l : List T) (s s' : RS), chkF l (pre ++ .st .atom :: post) s = some s' → ∃ l', chkF l' (pre ++ .int :: .str :: post) s = some s'
 | [], post, [], s, s', h => by simp only [List.nil_append, chkF] at h; cases h
 | [], post, t :: l, s, s', h => by
  simp only [List.nil_append, chkF, Option.bind_eq_some_iff] at h
  obtain ⟨u, hu, h⟩ := h
  cases t <;> simp only [chk] at hu <;> try cases hu
  split at hu
  · have hd : SN.atom.deep = false := rfl
    rw [hd] at hu
    simp only [SN.fields] at hu
    rename_i sn lt _
    match lt, hu with
    | [a, b], hu =>
     simp only [chkF, Option.bind_eq_some_iff] at hu
     obtain ⟨v, hv, u', hu', hu⟩ := hu
     simp only [Option.some.injEq] at hu; subst hu
     exact ⟨a :: b :: l, by simp only [List.nil_append, chkF, hv, hu', Option.bind_some]; exact h⟩
    | [], hu => simp only [chkF] at hu; cases hu
    | [a], hu =>
     simp only [chkF, Option.bind_eq_some_iff] at hu
     obtain ⟨v, hv, hu⟩ := hu; cases hu
    | a :: b :: x :: y, hu =>
     simp only [chkF, Option.bind_eq_some_iff] at hu
     obtain ⟨v, hv, u', hu', hu⟩ := hu; cases hu
  · cases hu
 | f :: pre, post, [], s, s', h => by simp only [List.cons_append, chkF] at h; cases h
 | f :: pre, post, t :: l, s, s', h => by
  simp only [List.cons_append, chkF, Option.bind_eq_some_iff] at h
  obtain ⟨u, hu, h⟩ := h
  obtain ⟨l', hl'⟩ := chkF_atom pre post l u s' h
  exact ⟨t :: l', by simp only [List.cons_append, chkF, hu, Option.bind_some]; exact hl'⟩
theorem bad_expr {fs gs : List Ty} {f : Ty} {l : List T} {s s1 : RS} (hf : exprFlat = fs ++ f :: gs) (h : chkF l fs { s with nest := s.nest + 1 } = some s1) (hb : Bad f s1) : Bad (.st .expr) s := by
 have key : ∀ l', chkF l' SN.expr.fields { s with nest := s.nest + 1 } = none := by
  intro l'
  cases hc : chkF l' SN.expr.fields { s with nest := s.nest + 1 } with
  | none => rfl
  | some u =>
   obtain ⟨l'', h2⟩ := chkF_atom [.int, .str, .str, .int] [.int, .st .test, .st .type, .list .str, .list (.st .expr)] l' _ u hc
   have h3 := chkF_fail l fs f gs _ s1 h hb l''
   rw [← hf] at h3
   have h4 : chkF l'' exprFlat { s with nest := s.nest + 1 } = some u := h2
   rw [h3] at h4; cases h4
 intro t
 cases t <;> simp only [chk]
 split
 · have hd : SN.expr.deep = true := rfl
   rw [hd]; simp only [key, Option.map_none, ite_self]
 · rfl
theorem RepC.cons_inv {w : World} {S : Nat → Prop} {f : Ty} {fs : List Ty} : ∀ {l : List T} {cs : List (List Value)}, RepC w S l (f :: fs) cs → ∃ t l' c cs', l = t :: l' ∧ cs = c :: cs' ∧ Rep w S t f c ∧ RepC w S l' fs cs'
 | t :: l, c :: cs, h => ⟨t, l, c, cs, rfl, rfl, h.1, h.2⟩
 | [], _, h => h.elim
 | _ :: _, [], h => h.elim
theorem RepC.nil_inv {w : World} {S : Nat → Prop} : ∀ {l : List T} {cs : List (List Value)}, RepC w S l [] cs → l = [] ∧ cs = []
 | [], [], _ => ⟨rfl, rfl⟩
 | [], _ :: _, h => h.elim
 | _ :: _, _, h => h.elim
theorem MSt.rep_expr {n0 p c tid : Nat} {sz : List Nat} {wz w0 : World} {s0 : RS} {cells chunks : List (List Value)} {s : RS} {w : World} (h : MSt n0 p c tid sz exprFlat wz w0 s0 cells chunks s w) (hc : chunks = cells) :
 chunks.flatten.length = SN.expr.size ∧ (∀ x ∈ chunks.flatten, x.oneCell' = true) ∧ ∃ l, chkF l SN.expr.fields s0 = some s ∧ Rep w (fun b => w0.heap.size ≤ b) (.agg .expr l) (.st .expr) chunks.flatten := by
 subst hc
 obtain ⟨l, hr, hchk⟩ := h.rep
 have hone := hr.one
 replace hr : RepC w (fun b => w0.heap.size ≤ b) l exprFlat chunks := RepC.agree (fun b hb hl => ⟨hb.1, hl, rfl⟩) hr
 clear h
 obtain ⟨t0, l, c0, chunks, rfl, rfl, r0, hr⟩ := hr.cons_inv
 obtain ⟨t1, l, c1, chunks, rfl, rfl, r1, hr⟩ := hr.cons_inv
 obtain ⟨t2, l, c2, chunks, rfl, rfl, r2, hr⟩ := hr.cons_inv
 obtain ⟨t3, l, c3, chunks, rfl, rfl, r3, hr⟩ := hr.cons_inv
 obtain ⟨t4, l, c4, chunks, rfl, rfl, r4, hr⟩ := hr.cons_inv
 obtain ⟨t5, l, c5, chunks, rfl, rfl, r5, hr⟩ := hr.cons_inv
 obtain ⟨t6, l, c6, chunks, rfl, rfl, r6, hr⟩ := hr.cons_inv
 obtain ⟨t7, l, c7, chunks, rfl, rfl, r7, hr⟩ := hr.cons_inv
 obtain ⟨t8, l, c8, chunks, rfl, rfl, r8, hr⟩ := hr.cons_inv
 obtain ⟨t9, l, c9, chunks, rfl, rfl, r9, hr⟩ := hr.cons_inv
 obtain ⟨t10, l, c10, chunks, rfl, rfl, r10, hr⟩ := hr.cons_inv
 obtain ⟨rfl, rfl⟩ := hr.nil_inv
 have ratom : Rep w (fun b => w0.heap.size ≤ b) (.agg .atom [t4, t5]) (.st .atom) (c4 ++ c5) := by
  have ha : RepC w (fun b => w0.heap.size ≤ b) [t4, t5] SN.atom.fields [c4, c5] := ⟨r4, r5, trivial⟩
  have hl : [c4, c5].flatten.length = SN.atom.size := by rw [sum_flat, ha.size, fields_size]
  have hF := RepC.toF [] ha
  simp only [List.flatten_cons, List.flatten_nil, List.append_nil, List.nil_append, List.length_nil] at hl hF
  simp only [Rep]
  exact ⟨trivial, hl, hF⟩
 have hall : RepC w (fun b => w0.heap.size ≤ b) [t0, t1, t2, t3, .agg .atom [t4, t5], t6, t7, t8, t9, t10] SN.expr.fields [c0, c1, c2, c3, c4 ++ c5, c6, c7, c8, c9, c10] :=
  ⟨r0, r1, r2, r3, ratom, r6, r7, r8, r9, r10, trivial⟩
 have hfl : [c0, c1, c2, c3, c4, c5, c6, c7, c8, c9, c10].flatten = [c0, c1, c2, c3, c4 ++ c5, c6, c7, c8, c9, c10].flatten := by simp
 refine ⟨by rw [hfl, sum_flat, hall.size, fields_size], hone, [t0, t1, t2, t3, .agg .atom [t4, t5], t6, t7, t8, t9, t10], ?_, ?_⟩
 · simp only [exprFlat, chkF, Option.bind_eq_some_iff] at hchk
   obtain ⟨u0, k0, u1, k1, u2, k2, u3, k3, u4, k4, u5, k5, u6, k6, u7, k7, u8, k8, u9, k9, u10, k10, k11⟩ := hchk
   have hat : chk (.agg .atom [t4, t5]) (.st .atom) u3 = some u5 := Go.Sx.good_st rfl (by simp only [SN.fields, chkF, k4, k5, Option.bind_some])
   simp only [SN.fields, chkF, k0, k1, k2, k3, hat, k6, k7, k8, k9, k10, Option.bind_some]
   exact k11
 · rw [hfl]
   have hF := RepC.toF [] hall
   simp only [Rep]
   exact ⟨trivial, by rw [sum_flat, hall.size, fields_size], hF⟩
end Go.Sx
namespace Go.Sx
open Go.Proofs
set_option maxHeartbeats 4000000 in
theorem c120 {n0 p k : Nat} (hk : k ≤ 1000) (ih : ¬ 1000 < k + 1 → RCall n0 p 120 (.st .expr) (k + 1)) : RCall n0 p 120 (.st .expr) k := by
 intro s w hs hnk
 obtain ⟨Z, hz, hzl⟩ : ∃ Z : List Value, (∀ w, (zeroValue 66).run Tryz.prog w = .ok (.agg Z.toArray) w) ∧ Z.length = sumN [1, 1, 1, 1, 1, 1, 1, 2, 5, 1, 1] := ⟨_, Tryz.zeroValue66, rfl⟩
 refine calls_WD 45 Tryz.func120 rfl rfl rfl ?_
 refine W.sq (W.rg (WL.alloc (hz _) rfl (WL.kp [(0, ptr p), (2, ptr w.heap.size)] ⟨rfl, rfl, trivial⟩ ?_)))
 have M := MSt.new (tid := 66) (sz := [1, 1, 1, 1, 1, 1, 1, 2, 5, 1, 1]) hs hzl
 have hcs : w.heap.size < (w.alloc (.cells Z.toArray 66)).heap.size := by simp
 show W _ _ _ _ _ _ (w.alloc (.cells Z.toArray 66))
 generalize w.alloc (.cells Z.toArray 66) = w1 at M hcs ⊢
 refine W.sq (W.rg (WL.mv rfl rfl (WL.cl Tryz.call55 rfl rfl (c55 M.rst (by omega)) ?_ ?_)))
 rotate_left
 · rintro ch w2 ⟨rfl, hm, f2, h2⟩ a ha
   exact tP (post_panD0 ha ⟨rfl, bad_most rfl hm, _, h2, M.frame f2, Nat.le_succ _⟩)
 rintro _ w2 ⟨hno, bx, rfl, hbx, hbx2, f2, h2⟩
 have hno0 := hno
 rw [hnk] at hno0
 have hbp : bx ≠ p := fun e => by have := hs.lp; have := hs.ln; omega
 have hbc : bx ≠ w.heap.size := by omega
 replace M := M.deep hzl f2 h2
 refine WL.defer rfl (WL.kp [(0, ptr p), (2, ptr w.heap.size)] ⟨rfl, rfl, trivial⟩ ?_)
 show W _ _ _ _ [def116 bx] _ _
 refine W.sq (W.rg ?_)
 refine WL.mv rfl rfl ?_
 refine WL.cl Tryz.call118 rfl rfl (c118 _ _ M.rst (M.nest.trans (congrArg (· + 1) hnk))) ?_ ?_
 rotate_left
 · intro ch w' hf a ha
   exact tP (post_panD ha (M.fail_deep hbx hbp hbc (fun l h hb => bad_expr rfl h hb) hf))
 rintro _ w' g
 obtain ⟨c0, s', rfl, M, H0, _⟩ := M.call g
 refine WL.mv rfl rfl ?_
 refine WL.cl Tryz.call56 rfl rfl (c56 _ _ M.rst (M.nest.trans (congrArg (· + 1) hnk))) ?_ ?_
 rotate_left
 · intro ch w' hf a ha
   exact tP (post_panD ha (M.fail_deep hbx hbp hbc (fun l h hb => bad_expr rfl h hb) hf))
 rintro _ w' g
 obtain ⟨c1, s', rfl, M, H1, _⟩ := M.call g
 refine WL.mv rfl rfl ?_
 refine WL.cl Tryz.call56 rfl rfl (c56 _ _ M.rst (M.nest.trans (congrArg (· + 1) hnk))) ?_ ?_
 rotate_left
 · intro ch w' hf a ha
   exact tP (post_panD ha (M.fail_deep hbx hbp hbc (fun l h hb => bad_expr rfl h hb) hf))
 rintro _ w' g
 obtain ⟨c2, s', rfl, M, H2, _⟩ := M.call g
 refine WL.mv rfl rfl ?_
 refine WL.cl Tryz.call118 rfl rfl (c118 _ _ M.rst (M.nest.trans (congrArg (· + 1) hnk))) ?_ ?_
 rotate_left
 · intro ch w' hf a ha
   exact tP (post_panD ha (M.fail_deep hbx hbp hbc (fun l h hb => bad_expr rfl h hb) hf))
 rintro _ w' g
 obtain ⟨c3, s', rfl, M, H3, _⟩ := M.call g
 refine WL.fa rfl (fld66_0 _ _ _) rfl ?_
 obtain ⟨w', hst, M⟩ := M.store (off := 0) 0 H0 iy3 rfl rfl
 refine WL.so rfl rfl hst ?_
 refine WL.fa rfl (fld66_1 _ _ _) rfl ?_
 obtain ⟨w', hst, M⟩ := M.store (off := 1) 1 H1 iy9 rfl rfl
 refine WL.so rfl rfl hst ?_
 refine WL.fa rfl (fld66_2 _ _ _) rfl ?_
 obtain ⟨w', hst, M⟩ := M.store (off := 2) 2 H2 iy9 rfl rfl
 refine WL.so rfl rfl hst ?_
 refine WL.fa rfl (fld66_3 _ _ _) rfl ?_
 obtain ⟨w', hst, M⟩ := M.store (off := 3) 3 H3 iy3 rfl rfl
 refine WL.so rfl rfl hst ?_
 refine WL.kp [(0, ptr p), (2, ptr w.heap.size)] ⟨rfl, rfl, trivial⟩ ?_
 refine W.sq (W.rg ?_)
 refine WL.mv rfl rfl ?_
 refine WL.cl Tryz.call118 rfl rfl (c118 _ _ M.rst (M.nest.trans (congrArg (· + 1) hnk))) ?_ ?_
 rotate_left
 · intro ch w' hf a ha
   exact tP (post_panD ha (M.fail_deep hbx hbp hbc (fun l h hb => bad_expr rfl h hb) hf))
 rintro _ w' g
 obtain ⟨c4, s', rfl, M, H4, _⟩ := M.call g
 refine WL.mv rfl rfl ?_
 refine WL.cl Tryz.call56 rfl rfl (c56 _ _ M.rst (M.nest.trans (congrArg (· + 1) hnk))) ?_ ?_
 rotate_left
 · intro ch w' hf a ha
   exact tP (post_panD ha (M.fail_deep hbx hbp hbc (fun l h hb => bad_expr rfl h hb) hf))
 rintro _ w' g
 obtain ⟨c5, s', rfl, M, H5, _⟩ := M.call g
 refine WL.fa rfl (fld66_4 _ _ _) rfl ?_
 refine WL.fa rfl (fld59_0 _ _ _) rfl ?_
 obtain ⟨w', hst, M⟩ := M.store (off := 4) 4 H4 iy3 rfl rfl
 refine WL.so rfl rfl hst ?_
 refine WL.fa rfl (fld66_4 _ _ _) rfl ?_
 refine WL.fa rfl (fld59_1 _ _ _) rfl ?_
 obtain ⟨w', hst, M⟩ := M.store (off := 5) 5 H5 iy9 rfl rfl
 refine WL.so rfl rfl hst ?_
 refine WL.kp [(0, ptr p), (2, ptr w.heap.size)] ⟨rfl, rfl, trivial⟩ ?_
 refine W.sq (W.rg ?_)
 refine WL.mv rfl rfl ?_
 refine WL.cl Tryz.call118 rfl rfl (c118 _ _ M.rst (M.nest.trans (congrArg (· + 1) hnk))) ?_ ?_
 rotate_left
 · intro ch w' hf a ha
   exact tP (post_panD ha (M.fail_deep hbx hbp hbc (fun l h hb => bad_expr rfl h hb) hf))
 rintro _ w' g
 obtain ⟨c6, s', rfl, M, H6, _⟩ := M.call g
 refine WL.mv rfl rfl ?_
 refine WL.cl Tryz.call189 rfl rfl (c189 _ _ M.rst (M.nest.trans (congrArg (· + 1) hnk))) ?_ ?_
 rotate_left
 · intro ch w' hf a ha
   exact tP (post_panD ha (M.fail_deep hbx hbp hbc (fun l h hb => bad_expr rfl h hb) hf))
 rintro _ w' g
 obtain ⟨c7, s', rfl, M, H7, _⟩ := M.call g
 refine WL.mv rfl rfl ?_
 refine WL.cl Tryz.call126 rfl rfl (c126 _ _ M.rst (M.nest.trans (congrArg (· + 1) hnk))) ?_ ?_
 rotate_left
 · intro ch w' hf a ha
   exact tP (post_panD ha (M.fail_deep hbx hbp hbc (fun l h hb => bad_expr rfl h hb) hf))
 rintro _ w' g
 obtain ⟨c8, s', rfl, M, H8, _⟩ := M.call g
 refine WL.fa rfl (fld66_5 _ _ _) rfl ?_
 obtain ⟨w', hst, M⟩ := M.store (off := 6) 6 H6 iy3 rfl rfl
 refine WL.so rfl rfl hst ?_
 refine WL.fa rfl (fld66_6 _ _ _) rfl ?_
 obtain ⟨w', hst, M⟩ := M.store (off := 7) 7 H7 iy61 rfl rfl
 refine WL.so rfl rfl hst ?_
 refine WL.fa rfl (fld66_7 _ _ _) rfl ?_
 obtain ⟨w', hst, M⟩ := M.store (off := 9) 8 H8 iy63 rfl rfl
 refine WL.so rfl rfl hst ?_
 refine WL.kp [(0, ptr p), (2, ptr w.heap.size)] ⟨rfl, rfl, trivial⟩ ?_
 refine W.sq (W.rg ?_)
 refine WL.mv rfl rfl ?_
 refine WL.mv rfl rfl ?_
 refine WL.makeFunc rfl rfl rfl ?_
 refine WL.cl Tryz.call121 rfl rfl ((c121 c56) _ _ M.rst (M.nest.trans (congrArg (· + 1) hnk))) ?_ ?_
 rotate_left
 · intro ch w' hf a ha
   exact tP (post_panD ha (M.fail_deep hbx hbp hbc (fun l h hb => bad_expr rfl h hb) hf))
 rintro _ w' g
 obtain ⟨c9, s', rfl, M, H9, _⟩ := M.call g
 refine WL.fa rfl (fld66_8 _ _ _) rfl ?_
 obtain ⟨w', hst, M⟩ := M.store (off := 14) 9 H9 iy44 rfl rfl
 refine WL.so rfl rfl hst ?_
 refine WL.kp [(0, ptr p), (2, ptr w.heap.size)] ⟨rfl, rfl, trivial⟩ ?_
 refine W.sq (W.rg ?_)
 refine WL.mv rfl rfl ?_
 refine WL.mv rfl rfl ?_
 refine WL.makeFunc rfl rfl rfl ?_
 refine WL.cl Tryz.call119 rfl rfl ((c119 (ih hno0)) _ _ M.rst (M.nest.trans (congrArg (· + 1) hnk))) ?_ ?_
 rotate_left
 · intro ch w' hf a ha
   exact tP (post_panD ha (M.fail_deep hbx hbp hbc (fun l h hb => bad_expr rfl h hb) hf))
 rintro _ w' g
 obtain ⟨c10, s', rfl, M, H10, _⟩ := M.call g
 refine WL.fa rfl (fld66_9 _ _ _) rfl ?_
 obtain ⟨w', hst, M⟩ := M.store (off := 15) 10 H10 iy64 rfl rfl
 refine WL.so rfl rfl hst ?_
 refine WL.kp [(0, ptr p), (2, ptr w.heap.size)] ⟨rfl, rfl, trivial⟩ ?_
 obtain ⟨hl, h1, l, hchk, hrep⟩ := M.rep_expr rfl
 have B := M.blk.all
 obtain ⟨w', hst, M2, hkeep⟩ := M.self (N := 16) iy66 hl h1
 have hrep2 := hkeep _ _ _ _ hrep
 exact W.sq (W.rg (WL.ld rfl (loadN iy66 hl B) rfl (WL.so rfl rfl hst (WL.nx (W.ret fun a ha => M2.good_deep hbx hbp hbc rfl hno iy66 hl hchk hrep2 rfl ha rfl)))))
theorem rExpr {n0 p : Nat} : ∀ k, k ≤ 1000 → RCall n0 p 120 (.st .expr) k := by
 have key : ∀ j k, k ≤ 1000 → 1000 - k ≤ j → RCall n0 p 120 (.st .expr) k := by
  intro j
  induction j with
  | zero => intro k hk hj; exact c120 hk (fun h => absurd h (by omega))
  | succ j ihj => intro k hk hj; exact c120 hk (fun h => ihj (k + 1) (by omega) (by omega))
 exact fun k hk => key _ k hk (Nat.le_refl _)
set_option maxHeartbeats 4000000 in
theorem c125 {n0 p k : Nat} (hk : k ≤ 1000) (ih : ¬ 1000 < k + 1 → RCall n0 p 125 (.st .instr) (k + 1)) : RCall n0 p 125 (.st .instr) k := by
 intro s w hs hnk
 obtain ⟨Z, hz, hzl⟩ : ∃ Z : List Value, (∀ w, (zeroValue 72).run Tryz.prog w = .ok (.agg Z.toArray) w) ∧ Z.length = sumN [1, 1, 1, 1, 1, 1, 16, 16, 5, 1, 1, 1, 1, 1, 1, 1, 1] := ⟨_, Tryz.zeroValue72, rfl⟩
 refine calls_WD 73 Tryz.func125 rfl rfl rfl ?_
 refine W.sq (W.rg (WL.alloc (hz _) rfl (WL.kp [(0, ptr p), (2, ptr w.heap.size)] ⟨rfl, rfl, trivial⟩ ?_)))
 have M := MSt.new (tid := 72) (sz := [1, 1, 1, 1, 1, 1, 16, 16, 5, 1, 1, 1, 1, 1, 1, 1, 1]) hs hzl
 have hcs : w.heap.size < (w.alloc (.cells Z.toArray 72)).heap.size := by simp
 show W _ _ _ _ _ _ (w.alloc (.cells Z.toArray 72))
 generalize w.alloc (.cells Z.toArray 72) = w1 at M hcs ⊢
 refine W.sq (W.rg (WL.mv rfl rfl (WL.cl Tryz.call55 rfl rfl (c55 M.rst (by omega)) ?_ ?_)))
 rotate_left
 · rintro ch w2 ⟨rfl, hm, f2, h2⟩ a ha
   exact tP (post_panD0 ha ⟨rfl, bad_most rfl hm, _, h2, M.frame f2, Nat.le_succ _⟩)
 rintro _ w2 ⟨hno, bx, rfl, hbx, hbx2, f2, h2⟩
 have hno0 := hno
 rw [hnk] at hno0
 have hbp : bx ≠ p := fun e => by have := hs.lp; have := hs.ln; omega
 have hbc : bx ≠ w.heap.size := by omega
 replace M := M.deep hzl f2 h2
 refine WL.defer rfl (WL.kp [(0, ptr p), (2, ptr w.heap.size)] ⟨rfl, rfl, trivial⟩ ?_)
 show W _ _ _ _ [def116 bx] _ _
 refine W.sq (W.rg ?_)
 refine WL.mv rfl rfl ?_
 refine WL.cl Tryz.call118 rfl rfl (c118 _ _ M.rst (M.nest.trans (congrArg (· + 1) hnk))) ?_ ?_
 rotate_left
 · intro ch w' hf a ha
   exact tP (post_panD ha (M.fail_deep hbx hbp hbc (fun l h hb => bad_deep (l := l) rfl rfl h hb) hf))
 rintro _ w' g
 obtain ⟨c0, s', rfl, M, H0, _⟩ := M.call g
 refine WL.mv rfl rfl ?_
 refine WL.cl Tryz.call56 rfl rfl (c56 _ _ M.rst (M.nest.trans (congrArg (· + 1) hnk))) ?_ ?_
 rotate_left
 · intro ch w' hf a ha
   exact tP (post_panD ha (M.fail_deep hbx hbp hbc (fun l h hb => bad_deep (l := l) rfl rfl h hb) hf))
 rintro _ w' g
 obtain ⟨c1, s', rfl, M, H1, _⟩ := M.call g
 refine WL.mv rfl rfl ?_
 refine WL.cl Tryz.call56 rfl rfl (c56 _ _ M.rst (M.nest.trans (congrArg (· + 1) hnk))) ?_ ?_
 rotate_left
 · intro ch w' hf a ha
   exact tP (post_panD ha (M.fail_deep hbx hbp hbc (fun l h hb => bad_deep (l := l) rfl rfl h hb) hf))
 rintro _ w' g
 obtain ⟨c2, s', rfl, M, H2, _⟩ := M.call g
 refine WL.fa rfl (fld72_0 _ _ _) rfl ?_
 obtain ⟨w', hst, M⟩ := M.store (off := 0) 0 H0 iy3 rfl rfl
 refine WL.so rfl rfl hst ?_
 refine WL.fa rfl (fld72_1 _ _ _) rfl ?_
 obtain ⟨w', hst, M⟩ := M.store (off := 1) 1 H1 iy9 rfl rfl
 refine WL.so rfl rfl hst ?_
 refine WL.fa rfl (fld72_2 _ _ _) rfl ?_
 obtain ⟨w', hst, M⟩ := M.store (off := 2) 2 H2 iy9 rfl rfl
 refine WL.so rfl rfl hst ?_
 refine WL.kp [(0, ptr p), (2, ptr w.heap.size)] ⟨rfl, rfl, trivial⟩ ?_
 refine W.sq (W.rg ?_)
 refine WL.mv rfl rfl ?_
 refine WL.mv rfl rfl ?_
 refine WL.makeFunc rfl rfl rfl ?_
 refine WL.cl Tryz.call190 rfl rfl ((c190 (c191 (rExpr _ (by omega)))) _ _ M.rst (M.nest.trans (congrArg (· + 1) hnk))) ?_ ?_
 rotate_left
 · intro ch w' hf a ha
   exact tP (post_panD ha (M.fail_deep hbx hbp hbc (fun l h hb => bad_deep (l := l) rfl rfl h hb) hf))
 rintro _ w' g
 obtain ⟨c3, s', rfl, M, H3, _⟩ := M.call g
 refine WL.fa rfl (fld72_3 _ _ _) rfl ?_
 obtain ⟨w', hst, M⟩ := M.store (off := 3) 3 H3 iy57 rfl rfl
 refine WL.so rfl rfl hst ?_
 refine WL.kp [(0, ptr p), (2, ptr w.heap.size)] ⟨rfl, rfl, trivial⟩ ?_
 refine W.sq (W.rg ?_)
 refine WL.mv rfl rfl ?_
 refine WL.mv rfl rfl ?_
 refine WL.makeFunc rfl rfl rfl ?_
 refine WL.cl Tryz.call190 rfl rfl ((c190 (c191 (rExpr _ (by omega)))) _ _ M.rst (M.nest.trans (congrArg (· + 1) hnk))) ?_ ?_
 rotate_left
 · intro ch w' hf a ha
   exact tP (post_panD ha (M.fail_deep hbx hbp hbc (fun l h hb => bad_deep (l := l) rfl rfl h hb) hf))
 rintro _ w' g
 obtain ⟨c4, s', rfl, M, H4, _⟩ := M.call g
 refine WL.fa rfl (fld72_4 _ _ _) rfl ?_
 obtain ⟨w', hst, M⟩ := M.store (off := 4) 4 H4 iy57 rfl rfl
 refine WL.so rfl rfl hst ?_
 refine WL.kp [(0, ptr p), (2, ptr w.heap.size)] ⟨rfl, rfl, trivial⟩ ?_
 refine W.sq (W.rg ?_)
 refine WL.mv rfl rfl ?_
 refine WL.cl Tryz.call117 rfl rfl (c117 _ _ M.rst (M.nest.trans (congrArg (· + 1) hnk))) ?_ ?_
 rotate_left
 · intro ch w' hf a ha
   exact tP (post_panD ha (M.fail_deep hbx hbp hbc (fun l h hb => bad_deep (l := l) rfl rfl h hb) hf))
 rintro _ w' g
 obtain ⟨c5, s', rfl, M, H5, _⟩ := M.call g
 refine WL.mv rfl rfl ?_
 refine WL.cl Tryz.call120 rfl rfl ((rExpr _ (by omega)) _ _ M.rst (M.nest.trans (congrArg (· + 1) hnk))) ?_ ?_
 rotate_left
 · intro ch w' hf a ha
   exact tP (post_panD ha (M.fail_deep hbx hbp hbc (fun l h hb => bad_deep (l := l) rfl rfl h hb) hf))
 rintro _ w' g
 obtain ⟨c6, s', rfl, M, H6, _⟩ := M.call g
 refine WL.mv rfl rfl ?_
 refine WL.cl Tryz.call120 rfl rfl ((rExpr _ (by omega)) _ _ M.rst (M.nest.trans (congrArg (· + 1) hnk))) ?_ ?_
 rotate_left
 · intro ch w' hf a ha
   exact tP (post_panD ha (M.fail_deep hbx hbp hbc (fun l h hb => bad_deep (l := l) rfl rfl h hb) hf))
 rintro _ w' g
 obtain ⟨c7, s', rfl, M, H7, _⟩ := M.call g
 refine WL.mv rfl rfl ?_
 refine WL.cl Tryz.call126 rfl rfl (c126 _ _ M.rst (M.nest.trans (congrArg (· + 1) hnk))) ?_ ?_
 rotate_left
 · intro ch w' hf a ha
   exact tP (post_panD ha (M.fail_deep hbx hbp hbc (fun l h hb => bad_deep (l := l) rfl rfl h hb) hf))
 rintro _ w' g
 obtain ⟨c8, s', rfl, M, H8, _⟩ := M.call g
 refine WL.fa rfl (fld72_5 _ _ _) rfl ?_
 obtain ⟨w', hst, M⟩ := M.store (off := 5) 5 H5 iy4 rfl rfl
 refine WL.so rfl rfl hst ?_
 refine WL.fa rfl (fld72_6 _ _ _) rfl ?_
 obtain ⟨w', hst, M⟩ := M.store (off := 6) 6 H6 iy66 rfl rfl
 refine WL.so rfl rfl hst ?_
 refine WL.fa rfl (fld72_7 _ _ _) rfl ?_
 obtain ⟨w', hst, M⟩ := M.store (off := 22) 7 H7 iy66 rfl rfl
 refine WL.so rfl rfl hst ?_
 refine WL.fa rfl (fld72_8 _ _ _) rfl ?_
 obtain ⟨w', hst, M⟩ := M.store (off := 38) 8 H8 iy63 rfl rfl
 refine WL.so rfl rfl hst ?_
 refine WL.kp [(0, ptr p), (2, ptr w.heap.size)] ⟨rfl, rfl, trivial⟩ ?_
 refine W.sq (W.rg ?_)
 refine WL.mv rfl rfl ?_
 refine WL.mv rfl rfl ?_
 refine WL.makeFunc rfl rfl rfl ?_
 refine WL.cl Tryz.call192 rfl rfl ((c192 (c193 (rExpr _ (by omega)))) _ _ M.rst (M.nest.trans (congrArg (· + 1) hnk))) ?_ ?_
 rotate_left
 · intro ch w' hf a ha
   exact tP (post_panD ha (M.fail_deep hbx hbp hbc (fun l h hb => bad_deep (l := l) rfl rfl h hb) hf))
 rintro _ w' g
 obtain ⟨c9, s', rfl, M, H9, _⟩ := M.call g
 refine WL.fa rfl (fld72_9 _ _ _) rfl ?_
 obtain ⟨w', hst, M⟩ := M.store (off := 43) 9 H9 iy67 rfl rfl
 refine WL.so rfl rfl hst ?_
 refine WL.kp [(0, ptr p), (2, ptr w.heap.size)] ⟨rfl, rfl, trivial⟩ ?_
 refine W.sq (W.rg ?_)
 refine WL.mv rfl rfl ?_
 refine WL.mv rfl rfl ?_
 refine WL.makeFunc rfl rfl rfl ?_
 refine WL.cl Tryz.call122 rfl rfl ((c122 (c123 (rExpr _ (by omega)) (ih hno0))) _ _ M.rst (M.nest.trans (congrArg (· + 1) hnk))) ?_ ?_
 rotate_left
 · intro ch w' hf a ha
   exact tP (post_panD ha (M.fail_deep hbx hbp hbc (fun l h hb => bad_deep (l := l) rfl rfl h hb) hf))
 rintro _ w' g
 obtain ⟨c10, s', rfl, M, H10, _⟩ := M.call g
 refine WL.fa rfl (fld72_10 _ _ _) rfl ?_
 obtain ⟨w', hst, M⟩ := M.store (off := 44) 10 H10 iy68 rfl rfl
 refine WL.so rfl rfl hst ?_
 refine WL.kp [(0, ptr p), (2, ptr w.heap.size)] ⟨rfl, rfl, trivial⟩ ?_
 refine W.sq (W.rg ?_)
 refine WL.mv rfl rfl ?_
 refine WL.mv rfl rfl ?_
 refine WL.makeFunc rfl rfl rfl ?_
 refine WL.cl Tryz.call194 rfl rfl ((c194 (c195 (rExpr _ (by omega)))) _ _ M.rst (M.nest.trans (congrArg (· + 1) hnk))) ?_ ?_
 rotate_left
 · intro ch w' hf a ha
   exact tP (post_panD ha (M.fail_deep hbx hbp hbc (fun l h hb => bad_deep (l := l) rfl rfl h hb) hf))
 rintro _ w' g
 obtain ⟨c11, s', rfl, M, H11, _⟩ := M.call g
 refine WL.fa rfl (fld72_11 _ _ _) rfl ?_
 obtain ⟨w', hst, M⟩ := M.store (off := 45) 11 H11 iy69 rfl rfl
 refine WL.so rfl rfl hst ?_
 refine WL.kp [(0, ptr p), (2, ptr w.heap.size)] ⟨rfl, rfl, trivial⟩ ?_
 refine W.sq (W.rg ?_)
 refine WL.mv rfl rfl ?_
 refine WL.mv rfl rfl ?_
 refine WL.makeFunc rfl rfl rfl ?_
 refine WL.cl Tryz.call196 rfl rfl ((c196 (c197 (ih hno0))) _ _ M.rst (M.nest.trans (congrArg (· + 1) hnk))) ?_ ?_
 rotate_left
 · intro ch w' hf a ha
   exact tP (post_panD ha (M.fail_deep hbx hbp hbc (fun l h hb => bad_deep (l := l) rfl rfl h hb) hf))
 rintro _ w' g
 obtain ⟨c12, s', rfl, M, H12, _⟩ := M.call g
 refine WL.fa rfl (fld72_12 _ _ _) rfl ?_
 obtain ⟨w', hst, M⟩ := M.store (off := 46) 12 H12 iy70 rfl rfl
 refine WL.so rfl rfl hst ?_
 refine WL.kp [(0, ptr p), (2, ptr w.heap.size)] ⟨rfl, rfl, trivial⟩ ?_
 refine W.sq (W.rg ?_)
 refine WL.mv rfl rfl ?_
 refine WL.mv rfl rfl ?_
 refine WL.makeFunc rfl rfl rfl ?_
 refine WL.cl Tryz.call124 rfl rfl ((c124 (ih hno0)) _ _ M.rst (M.nest.trans (congrArg (· + 1) hnk))) ?_ ?_
 rotate_left
 · intro ch w' hf a ha
   exact tP (post_panD ha (M.fail_deep hbx hbp hbc (fun l h hb => bad_deep (l := l) rfl rfl h hb) hf))
 rintro _ w' g
 obtain ⟨c13, s', rfl, M, H13, _⟩ := M.call g
 refine WL.fa rfl (fld72_13 _ _ _) rfl ?_
 obtain ⟨w', hst, M⟩ := M.store (off := 47) 13 H13 iy56 rfl rfl
 refine WL.so rfl rfl hst ?_
 refine WL.kp [(0, ptr p), (2, ptr w.heap.size)] ⟨rfl, rfl, trivial⟩ ?_
 refine W.sq (W.rg ?_)
 refine WL.mv rfl rfl ?_
 refine WL.mv rfl rfl ?_
 refine WL.makeFunc rfl rfl rfl ?_
 refine WL.cl Tryz.call124 rfl rfl ((c124 (ih hno0)) _ _ M.rst (M.nest.trans (congrArg (· + 1) hnk))) ?_ ?_
 rotate_left
 · intro ch w' hf a ha
   exact tP (post_panD ha (M.fail_deep hbx hbp hbc (fun l h hb => bad_deep (l := l) rfl rfl h hb) hf))
 rintro _ w' g
 obtain ⟨c14, s', rfl, M, H14, _⟩ := M.call g
 refine WL.fa rfl (fld72_14 _ _ _) rfl ?_
 obtain ⟨w', hst, M⟩ := M.store (off := 48) 14 H14 iy56 rfl rfl
 refine WL.so rfl rfl hst ?_
 refine WL.kp [(0, ptr p), (2, ptr w.heap.size)] ⟨rfl, rfl, trivial⟩ ?_
 refine W.sq (W.rg ?_)
 refine WL.mv rfl rfl ?_
 refine WL.cl Tryz.call118 rfl rfl (c118 _ _ M.rst (M.nest.trans (congrArg (· + 1) hnk))) ?_ ?_
 rotate_left
 · intro ch w' hf a ha
   exact tP (post_panD ha (M.fail_deep hbx hbp hbc (fun l h hb => bad_deep (l := l) rfl rfl h hb) hf))
 rintro _ w' g
 obtain ⟨c15, s', rfl, M, H15, _⟩ := M.call g
 refine WL.mv rfl rfl ?_
 refine WL.cl Tryz.call118 rfl rfl (c118 _ _ M.rst (M.nest.trans (congrArg (· + 1) hnk))) ?_ ?_
 rotate_left
 · intro ch w' hf a ha
   exact tP (post_panD ha (M.fail_deep hbx hbp hbc (fun l h hb => bad_deep (l := l) rfl rfl h hb) hf))
 rintro _ w' g
 obtain ⟨c16, s', rfl, M, H16, _⟩ := M.call g
 refine WL.fa rfl (fld72_15 _ _ _) rfl ?_
 obtain ⟨w', hst, M⟩ := M.store (off := 49) 15 H15 iy3 rfl rfl
 refine WL.so rfl rfl hst ?_
 refine WL.fa rfl (fld72_16 _ _ _) rfl ?_
 obtain ⟨w', hst, M⟩ := M.store (off := 50) 16 H16 iy3 rfl rfl
 refine WL.so rfl rfl hst ?_
 refine WL.kp [(0, ptr p), (2, ptr w.heap.size)] ⟨rfl, rfl, trivial⟩ ?_
 obtain ⟨hl, h1, l, hchk, hrep⟩ := M.rep_st (sn := .instr) rfl
 have B := M.blk.all
 obtain ⟨w', hst, M2, hkeep⟩ := M.self (N := 51) iy72 hl h1
 have hrep2 := hkeep _ _ _ _ hrep
 exact W.sq (W.rg (WL.ld rfl (loadN iy72 hl B) rfl (WL.so rfl rfl hst (WL.nx (W.ret fun a ha => M2.good_deep hbx hbp hbc rfl hno iy72 hl hchk hrep2 rfl ha rfl)))))
theorem rInstr {n0 p : Nat} : ∀ k, k ≤ 1000 → RCall n0 p 125 (.st .instr) k := by
 have key : ∀ j k, k ≤ 1000 → 1000 - k ≤ j → RCall n0 p 125 (.st .instr) k := by
  intro j
  induction j with
  | zero => intro k hk hj; exact c125 hk (fun h => absurd h (by omega))
  | succ j ihj => intro k hk hj; exact c125 hk (fun h => ihj (k + 1) (by omega) (by omega))
 exact fun k hk => key _ k hk (Nat.le_refl _)
end Go.Sx
namespace Go.Sx
open Go.Proofs
theorem bad_ptr_bool {e : Ty} {s : RS} (h : Bad .bool s) : Bad (.ptr e) s := by
 have h0 : s.eat 0 = none := by have := h (.bool false); simp only [chk] at this; exact this
 have h1 : s.eat 1 = none := by have := h (.bool true); simp only [chk] at this; exact this
 intro t
 cases t <;> simp only [chk]
 · exact h0
 · rw [h1]; rfl
theorem bad_ptr {e : Ty} {s s' : RS} (he : s.eat 1 = some s') (h : Bad e s') : Bad (.ptr e) s := by
 intro t
 cases t <;> simp only [chk]
 · cases h0 : s.eat 0 with
   | none => rfl
   | some u => have := (RS.eat_det h0 he).1; omega
 · rw [he]; exact h _
theorem MSt.read {n0 p c tid : Nat} {sz : List Nat} {fs : List Ty} {wz w0 : World} {s0 : RS} {cells chunks : List (List Value)} {s : RS} {w : World} (h : MSt n0 p c tid sz fs wz w0 s0 cells chunks s w) {f : Ty} {t : T} {s' : RS} {cs : List Value} {w' : World}
 (hc : chk t f s = some s') (hrep : Rep w' (fun b => w.heap.size ≤ b) t f cs) (hst : RSt n0 p s' w') (f' : Fr (only p) w (only p) w') (hn : s'.nest = s.nest) : MSt n0 p c tid sz (fs ++ [f]) wz w0 s0 (cells ++ [cs]) chunks s' w' := by
 obtain ⟨l, hr, hchk⟩ := h.rep
 have hne := h.ne
 have hcl := h.blk.lt
 have hbase := h.base
 have hlp := h.rst.lp
 have hw0 := h.fr.size
 refine ⟨hst, h.fr.trans (f'.drop (fun b hb => .inl hb)), h.c0, (f'.blk c hcl hne).trans h.blk, h.len, ⟨l ++ [t], ?_, (chkF_snoc l fs t f s0 s hchk).trans hc⟩, hbase, hn.trans h.nest, fun b h1 h2 h3 => (f'.blk b (Nat.lt_of_lt_of_le h1 h.alsoz) h2).trans (h.also b h1 h2 h3), Nat.le_trans h.alsoz f'.size⟩
 refine RepC.snoc (Rep.agree (fun b hb hl => ⟨⟨by omega, by omega⟩, hl, rfl⟩) _ _ _ hrep) (RepC.agree (fun b hb hl => ⟨hb, Nat.lt_of_lt_of_le hl f'.size, f'.blk b hl (fun e => by have := hb.1; omega)⟩) hr)
theorem c58 {n0 p k : Nat} (hS : RCall n0 p 32 (.st .sheet) k) : RCall n0 p 58 (.st .use) k := by
 intro s w hs hnk
 obtain ⟨Z, hz, hzl, hz1⟩ : ∃ Z : List Value, (∀ w, (zeroValue 48).run Tryz.prog w = .ok (.agg Z.toArray) w) ∧ Z.length = sumN [1, 1, 1, 1] ∧ ∀ c0, ((cut [1, 1, 1, 1] Z).set 0 c0).set 1 [.pointer none] = (cut [1, 1, 1, 1] Z).set 0 c0 :=
  ⟨_, Tryz.zeroValue48, rfl, fun c0 => rfl⟩
 obtain ⟨Y, hy, hyl⟩ : ∃ Y : List Value, (∀ w, (zeroValue 36).run Tryz.prog w = .ok (.agg Y.toArray) w) ∧ Y.length = 10 := ⟨_, Tryz.zeroValue36, rfl⟩
 refine cW 19 Tryz.func58 rfl rfl rfl ?_
 refine W.sq (W.rg (WL.alloc (hz _) rfl (WL.kp [(0, ptr p), (2, ptr w.heap.size)] ⟨rfl, rfl, trivial⟩ ?_)))
 have M := MSt.new (tid := 48) (sz := [1, 1, 1, 1]) hs hzl
 show W _ _ _ _ _ _ (w.alloc (.cells Z.toArray 48))
 generalize w.alloc (.cells Z.toArray 48) = w1 at M ⊢
 refine W.sq (W.rg ?_)
 refine WL.mv rfl rfl ?_
 refine WL.cl Tryz.call56 rfl rfl (c56 _ _ M.rst (M.nest.trans hnk)) ?_ ?_
 rotate_left
 · intro ch w' hf a ha
   exact tP (pP ha (M.fail_st rfl rfl hf))
 rintro _ w' g
 obtain ⟨c0, s', rfl, M, H0, _⟩ := M.call g
 refine WL.fa rfl (fld48_0 _ _ _) rfl ?_
 obtain ⟨w', hst, M⟩ := M.store (off := 0) 0 H0 iy9 rfl rfl
 refine WL.so rfl rfl hst ?_
 refine WL.kp [(0, ptr p), (2, ptr w.heap.size)] ⟨rfl, rfl, trivial⟩ ?_
 refine W.seqI (ι := List Value × RS) (fun _ => [(0, ptr p), (2, ptr w.heap.size)]) (fun i w' => MSt n0 p w.heap.size 48 [1, 1, 1, 1] [.str, .ptr (.st .sheet)] w1 w s [c0, i.1] (((cut [1, 1, 1, 1] Z).set 0 c0).set 1 i.1) i.2 w') ?_ ?_
 · refine W.sq (W.rg ?_)
   refine WL.mv rfl rfl ?_
   refine WL.cl Tryz.call117 rfl rfl (c117 (k := k) _ _ M.rst (M.nest.trans hnk)) ?_ ?_
   rotate_left
   · rintro ch w2 ⟨hch, hb, s2, h2, f2, hn2⟩ a ha
     exact tP (tP (pP ha (M.fail_st (sn := .use) rfl rfl ⟨hch, bad_ptr_bool hb, s2, h2, f2, hn2⟩)))
   rintro _ w2 ⟨t, s2, cs, hc, rfl, hrep, h2, f2, hn2⟩
   obtain ⟨b, rfl, rfl⟩ := hrep.bool_inv
   simp only [chk] at hc
   have hns : s2.nest = k := hn2.trans (M.nest.trans hnk)
   refine WL.nx ?_
   show W _ _ _ _ _ ((_, .bool b) :: _) _
   cases b with
   | false =>
    refine W.cond_false rfl (W.skip fun a ha => tN ⟨([.pointer none], s2), ha.weak ⟨rfl, rfl, trivial⟩, ?_⟩)
    simp only [hz1]
    exact M.read (f := .ptr (.st .sheet)) (t := .nil) (by simp only [chk]; exact hc) (by simp only [Rep]) h2 f2 hn2
   | true =>
    refine W.ct rfl (W.sq (W.rg (WL.mv rfl rfl (WL.cl Tryz.call32 rfl rfl (hS _ _ h2 hns) ?_ ?_))))
    rotate_left
    · rintro ch w3 ⟨hch, hb, s3, h3, f3, hn3⟩ a ha
      exact tP (tP (pP ha (M.fail_st (sn := .use) rfl rfl ⟨hch, bad_ptr hc hb, s3, h3, f2.trans f3, by omega⟩)))
    rintro _ w3 ⟨t, s3, cs, hc3, rfl, hrep3, h3, f3, hn3⟩
    refine WL.alloc (hy _) rfl ?_
    have a4 : Blk (w3.alloc (.cells Y.toArray 36)) w3.heap.size Y 36 := Blk.alloc_new
    have f4 : Fr (fun _ => False) w3 (fun _ => False) (w3.alloc (.cells Y.toArray 36)) := Fr.alloc _ _ _
    have hs4 : (w3.alloc (.cells Y.toArray 36)).heap.size = w3.heap.size + 1 := by simp
    show WL _ _ _ _ _ _ _ (w3.alloc (.cells Y.toArray 36))
    generalize w3.alloc (.cells Y.toArray 36) = w4 at a4 f4 hs4 ⊢
    obtain ⟨hcl, hc1⟩ := Rep.one _ _ _ hrep3
    have hcl' : cs.length = 10 := hcl
    have hst := store_at (P := Tryz.prog) (v := .agg cs.toArray) iy36 rfl hcl' hc1 a4 (o := 0) (by omega)
    have hsp : splice Y 0 cs = cs := by simp [splice, hyl, hcl']
    rw [hsp] at hst
    have hpn : p < n0 := h3.lp
    have hnl := M.rst.ln
    have hw2 := f2.size
    have hw3 := f3.size
    have f5 : Fr (only p) w3 (only p) (w4.setRow w3.heap.size cs.toArray) := ⟨f4.os, f4.tape, f4.output, by simp only [setRow_size]; omega, fun b hb _ => (setRow_other _ _ _ _ (by omega)).trans (f4.blk b hb (fun h => h)), fun b hb => .inl hb⟩
    have h5 : RSt n0 p s3 (w4.setRow w3.heap.size cs.toArray) := (h3.keep f4 (fun _ h => h.elim)).keep (Fr.setRow (O := only w3.heap.size) _ rfl) (fun k hk => by have : k = w3.heap.size := hk; omega)
    have b5 : Blk (w4.setRow w3.heap.size cs.toArray) w3.heap.size cs 36 := a4.setRow _
    have hs5 : (w4.setRow w3.heap.size cs.toArray).heap.size = w4.heap.size := by simp
    refine WL.so rfl rfl hst (WL.nx ?_)
    generalize w4.setRow w3.heap.size cs.toArray = w5 at f5 h5 b5 hs5 ⊢
    have hrep5 : Rep w5 (fun b => w'.heap.size ≤ b) (.ptr t) (.ptr (.st .sheet)) [.pointer (some ⟨w3.heap.size, 0, none⟩)] := by
     simp only [Rep]
     refine ⟨w3.heap.size, 0, cs, rfl, by omega, by omega, b5.all, hcl, Rep.agree (fun b hb hl => ⟨by omega, by omega, f5.blk b hl (fun e => by have : b = p := e; omega)⟩) _ _ _ hrep3⟩
    have hck : chk (.ptr t) (.ptr (.st .sheet)) s' = some s3 := by
     have hc1' : s'.eat 1 = some s2 := hc
     simp only [chk, hc1', Option.bind_some]; exact hc3
    have M5 := M.read (f := .ptr (.st .sheet)) (t := .ptr t) (s' := s3) hck hrep5 h5 (f2.trans (f3.trans f5)) (hn3.trans hn2)
    obtain ⟨w6, hst6, M6⟩ := M5.store (off := 1) 1 ⟨_, _, _, hrep5⟩ iy46 rfl rfl
    refine W.rg (WL.fa rfl (fld48_1 _ _ _) rfl (WL.so rfl rfl hst6 (WL.nil fun a ha => tN ⟨([.pointer (some ⟨w3.heap.size, 0, none⟩)], s3), ha.weak ⟨rfl, rfl, trivial⟩, M6⟩)))
 · rintro ⟨c1, s2⟩ w2 M
   simp only at M
   refine W.sq (W.rg ?_)
   refine WL.mv rfl rfl ?_
   refine WL.cl Tryz.call118 rfl rfl (c118 _ _ M.rst (M.nest.trans hnk)) ?_ ?_
   rotate_left
   · intro ch w' hf a ha
     exact tP (pP ha (M.fail_st (sn := .use) rfl rfl hf))
   rintro _ w' g
   obtain ⟨c2, s', rfl, M, H2, _⟩ := M.call g
   refine WL.mv rfl rfl ?_
   refine WL.cl Tryz.call118 rfl rfl (c118 _ _ M.rst (M.nest.trans hnk)) ?_ ?_
   rotate_left
   · intro ch w' hf a ha
     exact tP (pP ha (M.fail_st (sn := .use) rfl rfl hf))
   rintro _ w' g
   obtain ⟨c3, s', rfl, M, H3, _⟩ := M.call g
   refine WL.fa rfl (fld48_2 _ _ _) rfl ?_
   obtain ⟨w', hst, M⟩ := M.store (off := 2) 2 H2 iy3 rfl rfl
   refine WL.so rfl rfl hst ?_
   refine WL.fa rfl (fld48_3 _ _ _) rfl ?_
   obtain ⟨w', hst, M⟩ := M.store (off := 3) 3 H3 iy3 rfl rfl
   refine WL.so rfl rfl hst ?_
   refine WL.kp [(0, ptr p), (2, ptr w.heap.size)] ⟨rfl, rfl, trivial⟩ ?_
   obtain ⟨hl, h1, l, hchk, hrep⟩ := M.rep_st (sn := .use) rfl
   have B := M.blk.all
   obtain ⟨w', hst, M, _⟩ := M.self (N := 4) iy48 hl h1
   exact W.sq (W.rg (WL.ld rfl (loadN iy48 hl B) rfl (WL.so rfl rfl hst (WL.nx (W.ret fun a ha => post_cell rfl ha rfl (loadN iy48 hl M.blk.all) (M.good_st rfl rfl))))))
end Go.Sx
namespace Go.Sx
open Go.Proofs
set_option maxHeartbeats 4000000 in
theorem c32 {n0 p k : Nat} (hk : k ≤ 1000) (ih : ¬ 1000 < k + 1 → RCall n0 p 32 (.st .sheet) (k + 1)) : RCall n0 p 32 (.st .sheet) k := by
 intro s w hs hnk
 obtain ⟨Z, hz, hzl⟩ : ∃ Z : List Value, (∀ w, (zeroValue 36).run Tryz.prog w = .ok (.agg Z.toArray) w) ∧ Z.length = sumN [1, 1, 1, 1, 1, 1, 1, 1, 1, 1] := ⟨_, Tryz.zeroValue36, rfl⟩
 refine calls_WD 54 Tryz.func32 rfl rfl rfl ?_
 refine W.sq (W.rg (WL.alloc (hz _) rfl (WL.kp [(0, ptr p), (2, ptr w.heap.size)] ⟨rfl, rfl, trivial⟩ ?_)))
 have M := MSt.new (tid := 36) (sz := [1, 1, 1, 1, 1, 1, 1, 1, 1, 1]) hs hzl
 have hcs : w.heap.size < (w.alloc (.cells Z.toArray 36)).heap.size := by simp
 show W _ _ _ _ _ _ (w.alloc (.cells Z.toArray 36))
 generalize w.alloc (.cells Z.toArray 36) = w1 at M hcs ⊢
 refine W.sq (W.rg (WL.mv rfl rfl (WL.cl Tryz.call55 rfl rfl (c55 M.rst (by omega)) ?_ ?_)))
 rotate_left
 · rintro ch w2 ⟨rfl, hm, f2, h2⟩ a ha
   exact tP (post_panD0 ha ⟨rfl, bad_most rfl hm, _, h2, M.frame f2, Nat.le_succ _⟩)
 rintro _ w2 ⟨hno, bx, rfl, hbx, hbx2, f2, h2⟩
 have hno0 := hno
 rw [hnk] at hno0
 have hbp : bx ≠ p := fun e => by have := hs.lp; have := hs.ln; omega
 have hbc : bx ≠ w.heap.size := by omega
 replace M := M.deep hzl f2 h2
 refine WL.defer rfl (WL.kp [(0, ptr p), (2, ptr w.heap.size)] ⟨rfl, rfl, trivial⟩ ?_)
 show W _ _ _ _ [def116 bx] _ _
 refine W.sq (W.rg ?_)
 refine WL.mv rfl rfl ?_
 refine WL.cl Tryz.call56 rfl rfl (c56 _ _ M.rst (M.nest.trans (congrArg (· + 1) hnk))) ?_ ?_
 rotate_left
 · intro ch w' hf a ha
   exact tP (post_panD ha (M.fail_deep hbx hbp hbc (fun l h hb => bad_deep (l := l) rfl rfl h hb) hf))
 rintro _ w' g
 obtain ⟨c0, s', rfl, M, H0, _⟩ := M.call g
 refine WL.fa rfl (fld36_0 _ _ _) rfl ?_
 obtain ⟨w', hst, M⟩ := M.store (off := 0) 0 H0 iy9 rfl rfl
 refine WL.so rfl rfl hst ?_
 refine WL.kp [(0, ptr p), (2, ptr w.heap.size)] ⟨rfl, rfl, trivial⟩ ?_
 refine W.sq (W.rg ?_)
 refine WL.mv rfl rfl ?_
 refine WL.mv rfl rfl ?_
 refine WL.makeFunc rfl rfl rfl ?_
 refine WL.cl Tryz.call57 rfl rfl ((c57 (c58 (ih hno0))) _ _ M.rst (M.nest.trans (congrArg (· + 1) hnk))) ?_ ?_
 rotate_left
 · intro ch w' hf a ha
   exact tP (post_panD ha (M.fail_deep hbx hbp hbc (fun l h hb => bad_deep (l := l) rfl rfl h hb) hf))
 rintro _ w' g
 obtain ⟨c1, s', rfl, M, H1, _⟩ := M.call g
 refine WL.fa rfl (fld36_1 _ _ _) rfl ?_
 obtain ⟨w', hst, M⟩ := M.store (off := 1) 1 H1 iy26 rfl rfl
 refine WL.so rfl rfl hst ?_
 refine WL.kp [(0, ptr p), (2, ptr w.heap.size)] ⟨rfl, rfl, trivial⟩ ?_
 refine W.sq (W.rg ?_)
 refine WL.mv rfl rfl ?_
 refine WL.mv rfl rfl ?_
 refine WL.makeFunc rfl rfl rfl ?_
 refine WL.cl Tryz.call59 rfl rfl ((c59 (c60 (rExpr _ (by omega)) (rInstr _ (by omega)))) _ _ M.rst (M.nest.trans (congrArg (· + 1) hnk))) ?_ ?_
 rotate_left
 · intro ch w' hf a ha
   exact tP (post_panD ha (M.fail_deep hbx hbp hbc (fun l h hb => bad_deep (l := l) rfl rfl h hb) hf))
 rintro _ w' g
 obtain ⟨c2, s', rfl, M, H2, _⟩ := M.call g
 refine WL.fa rfl (fld36_2 _ _ _) rfl ?_
 obtain ⟨w', hst, M⟩ := M.store (off := 2) 2 H2 iy27 rfl rfl
 refine WL.so rfl rfl hst ?_
 refine WL.kp [(0, ptr p), (2, ptr w.heap.size)] ⟨rfl, rfl, trivial⟩ ?_
 refine W.sq (W.rg ?_)
 refine WL.mv rfl rfl ?_
 refine WL.mv rfl rfl ?_
 refine WL.makeFunc rfl rfl rfl ?_
 refine WL.cl Tryz.call61 rfl rfl ((c61 (c62 (rExpr _ (by omega)) (rInstr _ (by omega)))) _ _ M.rst (M.nest.trans (congrArg (· + 1) hnk))) ?_ ?_
 rotate_left
 · intro ch w' hf a ha
   exact tP (post_panD ha (M.fail_deep hbx hbp hbc (fun l h hb => bad_deep (l := l) rfl rfl h hb) hf))
 rintro _ w' g
 obtain ⟨c3, s', rfl, M, H3, _⟩ := M.call g
 refine WL.fa rfl (fld36_3 _ _ _) rfl ?_
 obtain ⟨w', hst, M⟩ := M.store (off := 3) 3 H3 iy28 rfl rfl
 refine WL.so rfl rfl hst ?_
 refine WL.kp [(0, ptr p), (2, ptr w.heap.size)] ⟨rfl, rfl, trivial⟩ ?_
 refine W.sq (W.rg ?_)
 refine WL.mv rfl rfl ?_
 refine WL.mv rfl rfl ?_
 refine WL.makeFunc rfl rfl rfl ?_
 refine WL.cl Tryz.call63 rfl rfl ((c63 (c64 (rExpr _ (by omega)) (rInstr _ (by omega)))) _ _ M.rst (M.nest.trans (congrArg (· + 1) hnk))) ?_ ?_
 rotate_left
 · intro ch w' hf a ha
   exact tP (post_panD ha (M.fail_deep hbx hbp hbc (fun l h hb => bad_deep (l := l) rfl rfl h hb) hf))
 rintro _ w' g
 obtain ⟨c4, s', rfl, M, H4, _⟩ := M.call g
 refine WL.fa rfl (fld36_4 _ _ _) rfl ?_
 obtain ⟨w', hst, M⟩ := M.store (off := 4) 4 H4 iy29 rfl rfl
 refine WL.so rfl rfl hst ?_
 refine WL.kp [(0, ptr p), (2, ptr w.heap.size)] ⟨rfl, rfl, trivial⟩ ?_
 refine W.sq (W.rg ?_)
 refine WL.mv rfl rfl ?_
 refine WL.mv rfl rfl ?_
 refine WL.makeFunc rfl rfl rfl ?_
 refine WL.cl Tryz.call65 rfl rfl ((c65 (c66 (rExpr _ (by omega)))) _ _ M.rst (M.nest.trans (congrArg (· + 1) hnk))) ?_ ?_
 rotate_left
 · intro ch w' hf a ha
   exact tP (post_panD ha (M.fail_deep hbx hbp hbc (fun l h hb => bad_deep (l := l) rfl rfl h hb) hf))
 rintro _ w' g
 obtain ⟨c5, s', rfl, M, H5, _⟩ := M.call g
 refine WL.fa rfl (fld36_5 _ _ _) rfl ?_
 obtain ⟨w', hst, M⟩ := M.store (off := 5) 5 H5 iy30 rfl rfl
 refine WL.so rfl rfl hst ?_
 refine WL.kp [(0, ptr p), (2, ptr w.heap.size)] ⟨rfl, rfl, trivial⟩ ?_
 refine W.sq (W.rg ?_)
 refine WL.mv rfl rfl ?_
 refine WL.mv rfl rfl ?_
 refine WL.makeFunc rfl rfl rfl ?_
 refine WL.cl Tryz.call67 rfl rfl ((c67 (c68 (rExpr _ (by omega)))) _ _ M.rst (M.nest.trans (congrArg (· + 1) hnk))) ?_ ?_
 rotate_left
 · intro ch w' hf a ha
   exact tP (post_panD ha (M.fail_deep hbx hbp hbc (fun l h hb => bad_deep (l := l) rfl rfl h hb) hf))
 rintro _ w' g
 obtain ⟨c6, s', rfl, M, H6, _⟩ := M.call g
 refine WL.fa rfl (fld36_6 _ _ _) rfl ?_
 obtain ⟨w', hst, M⟩ := M.store (off := 6) 6 H6 iy31 rfl rfl
 refine WL.so rfl rfl hst ?_
 refine WL.kp [(0, ptr p), (2, ptr w.heap.size)] ⟨rfl, rfl, trivial⟩ ?_
 refine W.sq (W.rg ?_)
 refine WL.mv rfl rfl ?_
 refine WL.mv rfl rfl ?_
 refine WL.makeFunc rfl rfl rfl ?_
 refine WL.cl Tryz.call69 rfl rfl ((c69 c70) _ _ M.rst (M.nest.trans (congrArg (· + 1) hnk))) ?_ ?_
 rotate_left
 · intro ch w' hf a ha
   exact tP (post_panD ha (M.fail_deep hbx hbp hbc (fun l h hb => bad_deep (l := l) rfl rfl h hb) hf))
 rintro _ w' g
 obtain ⟨c7, s', rfl, M, H7, _⟩ := M.call g
 refine WL.fa rfl (fld36_7 _ _ _) rfl ?_
 obtain ⟨w', hst, M⟩ := M.store (off := 7) 7 H7 iy32 rfl rfl
 refine WL.so rfl rfl hst ?_
 refine WL.kp [(0, ptr p), (2, ptr w.heap.size)] ⟨rfl, rfl, trivial⟩ ?_
 refine W.sq (W.rg ?_)
 refine WL.mv rfl rfl ?_
 refine WL.mv rfl rfl ?_
 refine WL.makeFunc rfl rfl rfl ?_
 refine WL.cl Tryz.call71 rfl rfl ((c71 c72) _ _ M.rst (M.nest.trans (congrArg (· + 1) hnk))) ?_ ?_
 rotate_left
 · intro ch w' hf a ha
   exact tP (post_panD ha (M.fail_deep hbx hbp hbc (fun l h hb => bad_deep (l := l) rfl rfl h hb) hf))
 rintro _ w' g
 obtain ⟨c8, s', rfl, M, H8, _⟩ := M.call g
 refine WL.fa rfl (fld36_8 _ _ _) rfl ?_
 obtain ⟨w', hst, M⟩ := M.store (off := 8) 8 H8 iy33 rfl rfl
 refine WL.so rfl rfl hst ?_
 refine WL.kp [(0, ptr p), (2, ptr w.heap.size)] ⟨rfl, rfl, trivial⟩ ?_
 refine W.sq (W.rg ?_)
 refine WL.mv rfl rfl ?_
 refine WL.mv rfl rfl ?_
 refine WL.makeFunc rfl rfl rfl ?_
 refine WL.cl Tryz.call73 rfl rfl ((c73 c74) _ _ M.rst (M.nest.trans (congrArg (· + 1) hnk))) ?_ ?_
 rotate_left
 · intro ch w' hf a ha
   exact tP (post_panD ha (M.fail_deep hbx hbp hbc (fun l h hb => bad_deep (l := l) rfl rfl h hb) hf))
 rintro _ w' g
 obtain ⟨c9, s', rfl, M, H9, _⟩ := M.call g
 refine WL.fa rfl (fld36_9 _ _ _) rfl ?_
 obtain ⟨w', hst, M⟩ := M.store (off := 9) 9 H9 iy34 rfl rfl
 refine WL.so rfl rfl hst ?_
 refine WL.kp [(0, ptr p), (2, ptr w.heap.size)] ⟨rfl, rfl, trivial⟩ ?_
 obtain ⟨hl, h1, l, hchk, hrep⟩ := M.rep_st (sn := .sheet) rfl
 have B := M.blk.all
 obtain ⟨w', hst, M2, hkeep⟩ := M.self (N := 10) iy36 hl h1
 have hrep2 := hkeep _ _ _ _ hrep
 exact W.sq (W.rg (WL.ld rfl (loadN iy36 hl B) rfl (WL.so rfl rfl hst (WL.nx (W.ret fun a ha => M2.good_deep hbx hbp hbc rfl hno iy36 hl hchk hrep2 rfl ha rfl)))))
theorem rSheet {n0 p : Nat} : ∀ k, k ≤ 1000 → RCall n0 p 32 (.st .sheet) k := by
 have key : ∀ j k, k ≤ 1000 → 1000 - k ≤ j → RCall n0 p 32 (.st .sheet) k := by
  intro j
  induction j with
  | zero => intro k hk hj; exact c32 hk (fun h => absurd h (by omega))
  | succ j ihj => intro k hk hj; exact c32 hk (fun h => ihj (k + 1) (by omega) (by omega))
 exact fun k hk => key _ k hk (Nat.le_refl _)
end Go.Sx
