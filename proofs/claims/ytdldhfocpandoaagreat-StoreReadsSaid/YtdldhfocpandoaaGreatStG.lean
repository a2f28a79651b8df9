import Derived.Test.YtdldhfocpandoaaGreatStF
set_option maxHeartbeats 8000000
set_option maxRecDepth 8000
namespace Go.Sx
open Go.Proofs Go.Proofs.Tryz
theorem Of {n0 p k : Nat}  : BG n0 p 126 (.st .type) k := by
 intro s w hs hnk
 obtain ⟨Z, hz, hzl⟩ : ∃ Z : List Value, (∀ w, (zeroValue 63).run prog w = .ok (.agg Z.toArray) w) ∧ Z.length = Cy [1, 1, 2, 1] := ⟨_, zeroValue63, rfl⟩
 refine AB 16 func126 V V V ?_
 refine Af (Aa (AO (hz _) V (Ar [(0, ptr p), (2, ptr w.heap.size)] ⟨V, V, trivial⟩ ?_)))
 have M := MSt.new (tid := 63) (sz := [1, 1, 2, 1]) hs hzl
 have hcs : w.heap.size < (w.alloc (.cells Z.toArray 63)).heap.size := by simp
 show W _ _ _ _ _ _ (w.alloc (.cells Z.toArray 63))
 generalize w.alloc (.cells Z.toArray 63) = w1 at M hcs ⊢
 refine Af (Aa ?_)
 refine Ac V V ?_
 refine Aj call118 V V (Ez _ _ M.rst (M.nest.trans hnk)) ?_ ?_
 rotate_left
 · intro ch w' hf a ha
   exact Am (Av ha (M.fail_st V V hf))
 rintro _ w' g
 obtain ⟨c0, s', rfl, M, H0, _⟩ := M.call g
 refine Ac V V ?_
 refine Aj call118 V V (Ez _ _ M.rst (M.nest.trans hnk)) ?_ ?_
 rotate_left
 · intro ch w' hf a ha
   exact Am (Av ha (M.fail_st V V hf))
 rintro _ w' g
 obtain ⟨c1, s', rfl, M, H1, _⟩ := M.call g
 refine Ab V (J7 _ _ _) V ?_
 obtain ⟨w', hst, M⟩ := M.store (off := 0) 0 H0 Cj rfl rfl
 refine An V V hst ?_
 refine Ab V (JH _ _ _) V ?_
 obtain ⟨w', hst, M⟩ := M.store (off := 1) 1 H1 Cj rfl rfl
 refine An V V hst ?_
 refine Ar [(0, ptr p), (2, ptr w.heap.size)] ⟨V, V, trivial⟩ ?_
 refine Af (Aa ?_)
 refine Ac V V ?_
 refine Aj call189 V V (Qt _ _ M.rst (M.nest.trans hnk)) ?_ ?_
 rotate_left
 · intro ch w' hf a ha
   exact Am (Av ha (M.fail_st V V hf))
 rintro _ w' g
 obtain ⟨c2, s', rfl, M, H2, _⟩ := M.call g
 refine Ab V (JK _ _ _) V ?_
 obtain ⟨w', hst, M⟩ := M.store (off := 2) 2 H2 IL rfl rfl
 refine An V V hst ?_
 refine Ar [(0, ptr p), (2, ptr w.heap.size)] ⟨V, V, trivial⟩ ?_
 refine Af (Aa ?_)
 refine Ac V V ?_
 refine Aj call56 V V (Iu _ _ M.rst (M.nest.trans hnk)) ?_ ?_
 rotate_left
 · intro ch w' hf a ha
   exact Am (Av ha (M.fail_st V V hf))
 rintro _ w' g
 obtain ⟨c3, s', rfl, M, H3, _⟩ := M.call g
 refine Ab V (JA _ _ _) V ?_
 obtain ⟨w', hst, M⟩ := M.store (off := 4) 3 H3 Cc rfl rfl
 refine An V V hst ?_
 refine Ar [(0, ptr p), (2, ptr w.heap.size)] ⟨V, V, trivial⟩ ?_
 obtain ⟨hl, h1, l, hchk, hrep⟩ := M.rep_st (sn := .type) rfl
 have B := M.blk.all
 obtain ⟨w', hst, M, _⟩ := M.self (N := 5) D9 hl h1
 exact Af (Aa (Ai V (Bg D9 hl B) V (An V V hst (Ae (AA fun a ha => BE V ha V (Bg D9 hl M.blk.all) (M.good_st V V))))))
theorem Rx {n0 p k : Nat}  : BG n0 p 130 (.st .swap) k := by
 intro s w hs hnk
 obtain ⟨Z, hz, hzl⟩ : ∃ Z : List Value, (∀ w, (zeroValue 170).run prog w = .ok (.agg Z.toArray) w) ∧ Z.length = Cy [1, 1] := ⟨_, zeroValue170, rfl⟩
 refine AB 10 func130 V V V ?_
 refine Af (Aa (AO (hz _) V (Ar [(0, ptr p), (2, ptr w.heap.size)] ⟨V, V, trivial⟩ ?_)))
 have M := MSt.new (tid := 170) (sz := [1, 1]) hs hzl
 have hcs : w.heap.size < (w.alloc (.cells Z.toArray 170)).heap.size := by simp
 show W _ _ _ _ _ _ (w.alloc (.cells Z.toArray 170))
 generalize w.alloc (.cells Z.toArray 170) = w1 at M hcs ⊢
 refine Af (Aa ?_)
 refine Ac V V ?_
 refine Aj call118 V V (Ez _ _ M.rst (M.nest.trans hnk)) ?_ ?_
 rotate_left
 · intro ch w' hf a ha
   exact Am (Av ha (M.fail_st V V hf))
 rintro _ w' g
 obtain ⟨c0, s', rfl, M, H0, _⟩ := M.call g
 refine Ac V V ?_
 refine Aj call56 V V (Iu _ _ M.rst (M.nest.trans hnk)) ?_ ?_
 rotate_left
 · intro ch w' hf a ha
   exact Am (Av ha (M.fail_st V V hf))
 rintro _ w' g
 obtain ⟨c1, s', rfl, M, H1, _⟩ := M.call g
 refine Ab V (I5 _ _ _) V ?_
 obtain ⟨w', hst, M⟩ := M.store (off := 0) 0 H0 Cj rfl rfl
 refine An V V hst ?_
 refine Ab V (I1 _ _ _) V ?_
 obtain ⟨w', hst, M⟩ := M.store (off := 1) 1 H1 Cc rfl rfl
 refine An V V hst ?_
 refine Ar [(0, ptr p), (2, ptr w.heap.size)] ⟨V, V, trivial⟩ ?_
 obtain ⟨hl, h1, l, hchk, hrep⟩ := M.rep_st (sn := .swap) rfl
 have B := M.blk.all
 obtain ⟨w', hst, M, _⟩ := M.self (N := 2) Fk hl h1
 exact Af (Aa (Ai V (Bg Fk hl B) V (An V V hst (Ae (AA fun a ha => BE V ha V (Bg Fk hl M.blk.all) (M.good_st V V))))))
theorem RU {n0 p k : Nat}  : BG n0 p 70 (.st .mode) k := by
 intro s w hs hnk
 obtain ⟨Z, hz, hzl⟩ : ∃ Z : List Value, (∀ w, (zeroValue 84).run prog w = .ok (.agg Z.toArray) w) ∧ Z.length = Cy [1, 1, 1, 1, 1, 1] := ⟨_, zeroValue84, rfl⟩
 refine AB 22 func70 V V V ?_
 refine Af (Aa (AO (hz _) V (Ar [(0, ptr p), (2, ptr w.heap.size)] ⟨V, V, trivial⟩ ?_)))
 have M := MSt.new (tid := 84) (sz := [1, 1, 1, 1, 1, 1]) hs hzl
 have hcs : w.heap.size < (w.alloc (.cells Z.toArray 84)).heap.size := by simp
 show W _ _ _ _ _ _ (w.alloc (.cells Z.toArray 84))
 generalize w.alloc (.cells Z.toArray 84) = w1 at M hcs ⊢
 refine Af (Aa ?_)
 refine Ac V V ?_
 refine Aj call56 V V (Iu _ _ M.rst (M.nest.trans hnk)) ?_ ?_
 rotate_left
 · intro ch w' hf a ha
   exact Am (Av ha (M.fail_st V V hf))
 rintro _ w' g
 obtain ⟨c0, s', rfl, M, H0, _⟩ := M.call g
 refine Ac V V ?_
 refine Aj call56 V V (Iu _ _ M.rst (M.nest.trans hnk)) ?_ ?_
 rotate_left
 · intro ch w' hf a ha
   exact Am (Av ha (M.fail_st V V hf))
 rintro _ w' g
 obtain ⟨c1, s', rfl, M, H1, _⟩ := M.call g
 refine Ac V V ?_
 refine Aj call117 V V (I0 _ _ M.rst (M.nest.trans hnk)) ?_ ?_
 rotate_left
 · intro ch w' hf a ha
   exact Am (Av ha (M.fail_st V V hf))
 rintro _ w' g
 obtain ⟨c2, s', rfl, M, H2, _⟩ := M.call g
 refine Ac V V ?_
 refine Aj call117 V V (I0 _ _ M.rst (M.nest.trans hnk)) ?_ ?_
 rotate_left
 · intro ch w' hf a ha
   exact Am (Av ha (M.fail_st V V hf))
 rintro _ w' g
 obtain ⟨c3, s', rfl, M, H3, _⟩ := M.call g
 refine Ac V V ?_
 refine Aj call56 V V (Iu _ _ M.rst (M.nest.trans hnk)) ?_ ?_
 rotate_left
 · intro ch w' hf a ha
   exact Am (Av ha (M.fail_st V V hf))
 rintro _ w' g
 obtain ⟨c4, s', rfl, M, H4, _⟩ := M.call g
 refine Ac V V ?_
 refine Aj call118 V V (Ez _ _ M.rst (M.nest.trans hnk)) ?_ ?_
 rotate_left
 · intro ch w' hf a ha
   exact Am (Av ha (M.fail_st V V hf))
 rintro _ w' g
 obtain ⟨c5, s', rfl, M, H5, _⟩ := M.call g
 refine Ab V (JO _ _ _) V ?_
 obtain ⟨w', hst, M⟩ := M.store (off := 0) 0 H0 Cc rfl rfl
 refine An V V hst ?_
 refine Ab V (IQ _ _ _) V ?_
 obtain ⟨w', hst, M⟩ := M.store (off := 1) 1 H1 Cc rfl rfl
 refine An V V hst ?_
 refine Ab V (JB _ _ _) V ?_
 obtain ⟨w', hst, M⟩ := M.store (off := 2) 2 H2 Dp rfl rfl
 refine An V V hst ?_
 refine Ab V (J_ _ _ _) V ?_
 obtain ⟨w', hst, M⟩ := M.store (off := 3) 3 H3 Dp rfl rfl
 refine An V V hst ?_
 refine Ab V (JF _ _ _) V ?_
 obtain ⟨w', hst, M⟩ := M.store (off := 4) 4 H4 Cc rfl rfl
 refine An V V hst ?_
 refine Ab V (JC _ _ _) V ?_
 obtain ⟨w', hst, M⟩ := M.store (off := 5) 5 H5 Cj rfl rfl
 refine An V V hst ?_
 refine Ar [(0, ptr p), (2, ptr w.heap.size)] ⟨V, V, trivial⟩ ?_
 obtain ⟨hl, h1, l, hchk, hrep⟩ := M.rep_st (sn := .mode) rfl
 have B := M.blk.all
 obtain ⟨w', hst, M, _⟩ := M.self (N := 6) Gz hl h1
 exact Af (Aa (Ai V (Bg Gz hl B) V (An V V hst (Ae (AA fun a ha => BE V ha V (Bg Gz hl M.blk.all) (M.good_st V V))))))
theorem Ss {n0 p k : Nat}  : BG n0 p 72 (.st .output) k := by
 intro s w hs hnk
 obtain ⟨Z, hz, hzl⟩ : ∃ Z : List Value, (∀ w, (zeroValue 157).run prog w = .ok (.agg Z.toArray) w) ∧ Z.length = Cy [1, 1, 1, 1, 1] := ⟨_, zeroValue157, rfl⟩
 refine AB 21 func72 V V V ?_
 refine Af (Aa (AO (hz _) V (Ar [(0, ptr p), (2, ptr w.heap.size)] ⟨V, V, trivial⟩ ?_)))
 have M := MSt.new (tid := 157) (sz := [1, 1, 1, 1, 1]) hs hzl
 have hcs : w.heap.size < (w.alloc (.cells Z.toArray 157)).heap.size := by simp
 show W _ _ _ _ _ _ (w.alloc (.cells Z.toArray 157))
 generalize w.alloc (.cells Z.toArray 157) = w1 at M hcs ⊢
 refine Af (Aa ?_)
 refine Ac V V ?_
 refine Aj call56 V V (Iu _ _ M.rst (M.nest.trans hnk)) ?_ ?_
 rotate_left
 · intro ch w' hf a ha
   exact Am (Av ha (M.fail_st V V hf))
 rintro _ w' g
 obtain ⟨c0, s', rfl, M, H0, _⟩ := M.call g
 refine Ac V V ?_
 refine Aj call56 V V (Iu _ _ M.rst (M.nest.trans hnk)) ?_ ?_
 rotate_left
 · intro ch w' hf a ha
   exact Am (Av ha (M.fail_st V V hf))
 rintro _ w' g
 obtain ⟨c1, s', rfl, M, H1, _⟩ := M.call g
 refine Ac V V ?_
 refine Aj call117 V V (I0 _ _ M.rst (M.nest.trans hnk)) ?_ ?_
 rotate_left
 · intro ch w' hf a ha
   exact Am (Av ha (M.fail_st V V hf))
 rintro _ w' g
 obtain ⟨c2, s', rfl, M, H2, _⟩ := M.call g
 refine Ac V V ?_
 refine Aj call117 V V (I0 _ _ M.rst (M.nest.trans hnk)) ?_ ?_
 rotate_left
 · intro ch w' hf a ha
   exact Am (Av ha (M.fail_st V V hf))
 rintro _ w' g
 obtain ⟨c3, s', rfl, M, H3, _⟩ := M.call g
 refine Ab V (Fq _ _ _) V ?_
 obtain ⟨w', hst, M⟩ := M.store (off := 0) 0 H0 Cc rfl rfl
 refine An V V hst ?_
 refine Ab V (FK _ _ _) V ?_
 obtain ⟨w', hst, M⟩ := M.store (off := 1) 1 H1 Cc rfl rfl
 refine An V V hst ?_
 refine Ab V (Gj _ _ _) V ?_
 obtain ⟨w', hst, M⟩ := M.store (off := 2) 2 H2 Dp rfl rfl
 refine An V V hst ?_
 refine Ab V (Gd _ _ _) V ?_
 obtain ⟨w', hst, M⟩ := M.store (off := 3) 3 H3 Dp rfl rfl
 refine An V V hst ?_
 refine Ar [(0, ptr p), (2, ptr w.heap.size)] ⟨V, V, trivial⟩ ?_
 refine Af (Aa ?_)
 refine Ac V V ?_
 refine Ac V V ?_
 refine AH V V V ?_
 refine Aj call121 V V ((OS Iu) _ _ M.rst (M.nest.trans hnk)) ?_ ?_
 rotate_left
 · intro ch w' hf a ha
   exact Am (Av ha (M.fail_st V V hf))
 rintro _ w' g
 obtain ⟨c4, s', rfl, M, H4, _⟩ := M.call g
 refine Ab V (FD _ _ _) V ?_
 obtain ⟨w', hst, M⟩ := M.store (off := 4) 4 H4 D_ rfl rfl
 refine An V V hst ?_
 refine Ar [(0, ptr p), (2, ptr w.heap.size)] ⟨V, V, trivial⟩ ?_
 obtain ⟨hl, h1, l, hchk, hrep⟩ := M.rep_st (sn := .output) rfl
 have B := M.blk.all
 obtain ⟨w', hst, M, _⟩ := M.self (N := 5) Dw hl h1
 exact Af (Aa (Ai V (Bg Dw hl B) V (An V V hst (Ae (AA fun a ha => BE V ha V (Bg Dw hl M.blk.all) (M.good_st V V))))))
theorem Sj {n0 p k : Nat}  : BG n0 p 74 (.st .charMap) k := by
 intro s w hs hnk
 obtain ⟨Z, hz, hzl⟩ : ∃ Z : List Value, (∀ w, (zeroValue 162).run prog w = .ok (.agg Z.toArray) w) ∧ Z.length = Cy [1, 1] := ⟨_, zeroValue162, rfl⟩
 refine AB 12 func74 V V V ?_
 refine Af (Aa (AO (hz _) V (Ar [(0, ptr p), (2, ptr w.heap.size)] ⟨V, V, trivial⟩ ?_)))
 have M := MSt.new (tid := 162) (sz := [1, 1]) hs hzl
 have hcs : w.heap.size < (w.alloc (.cells Z.toArray 162)).heap.size := by simp
 show W _ _ _ _ _ _ (w.alloc (.cells Z.toArray 162))
 generalize w.alloc (.cells Z.toArray 162) = w1 at M hcs ⊢
 refine Af (Aa ?_)
 refine Ac V V ?_
 refine Aj call56 V V (Iu _ _ M.rst (M.nest.trans hnk)) ?_ ?_
 rotate_left
 · intro ch w' hf a ha
   exact Am (Av ha (M.fail_st V V hf))
 rintro _ w' g
 obtain ⟨c0, s', rfl, M, H0, _⟩ := M.call g
 refine Ab V (Fz _ _ _) V ?_
 obtain ⟨w', hst, M⟩ := M.store (off := 0) 0 H0 Cc rfl rfl
 refine An V V hst ?_
 refine Ar [(0, ptr p), (2, ptr w.heap.size)] ⟨V, V, trivial⟩ ?_
 refine Af (Aa ?_)
 refine Ac V V ?_
 refine Ac V V ?_
 refine AH V V V ?_
 refine Aj call129 V V ((Lk Rx) _ _ M.rst (M.nest.trans hnk)) ?_ ?_
 rotate_left
 · intro ch w' hf a ha
   exact Am (Av ha (M.fail_st V V hf))
 rintro _ w' g
 obtain ⟨c1, s', rfl, M, H1, _⟩ := M.call g
 refine Ab V (Dg _ _ _) V ?_
 obtain ⟨w', hst, M⟩ := M.store (off := 1) 1 H1 Fp rfl rfl
 refine An V V hst ?_
 refine Ar [(0, ptr p), (2, ptr w.heap.size)] ⟨V, V, trivial⟩ ?_
 obtain ⟨hl, h1, l, hchk, hrep⟩ := M.rep_st (sn := .charMap) rfl
 have B := M.blk.all
 obtain ⟨w', hst, M, _⟩ := M.self (N := 2) DF hl h1
 exact Af (Aa (Ai V (Bg DF hl B) V (An V V hst (Ae (AA fun a ha => BE V ha V (Bg DF hl M.blk.all) (M.good_st V V))))))
theorem PM {n0 p k : Nat} (hX : BG n0 p 120 (.st .expr) k) : BG n0 p 191 (.st .part) k := by
 intro s w hs hnk
 obtain ⟨Z, hz, hzl⟩ : ∃ Z : List Value, (∀ w, (zeroValue 282).run prog w = .ok (.agg Z.toArray) w) ∧ Z.length = Cy [1, 1, 16] := ⟨_, zeroValue282, rfl⟩
 refine AB 13 func191 V V V ?_
 refine Af (Aa (AO (hz _) V (Ar [(0, ptr p), (2, ptr w.heap.size)] ⟨V, V, trivial⟩ ?_)))
 have M := MSt.new (tid := 282) (sz := [1, 1, 16]) hs hzl
 have hcs : w.heap.size < (w.alloc (.cells Z.toArray 282)).heap.size := by simp
 show W _ _ _ _ _ _ (w.alloc (.cells Z.toArray 282))
 generalize w.alloc (.cells Z.toArray 282) = w1 at M hcs ⊢
 refine Af (Aa ?_)
 refine Ac V V ?_
 refine Aj call56 V V (Iu _ _ M.rst (M.nest.trans hnk)) ?_ ?_
 rotate_left
 · intro ch w' hf a ha
   exact Am (Av ha (M.fail_st V V hf))
 rintro _ w' g
 obtain ⟨c0, s', rfl, M, H0, _⟩ := M.call g
 refine Ac V V ?_
 refine Aj call117 V V (I0 _ _ M.rst (M.nest.trans hnk)) ?_ ?_
 rotate_left
 · intro ch w' hf a ha
   exact Am (Av ha (M.fail_st V V hf))
 rintro _ w' g
 obtain ⟨c1, s', rfl, M, H1, _⟩ := M.call g
 refine Ac V V ?_
 refine Aj call120 V V (hX _ _ M.rst (M.nest.trans hnk)) ?_ ?_
 rotate_left
 · intro ch w' hf a ha
   exact Am (Av ha (M.fail_st V V hf))
 rintro _ w' g
 obtain ⟨c2, s', rfl, M, H2, _⟩ := M.call g
 refine Ab V (Gx _ _ _) V ?_
 obtain ⟨w', hst, M⟩ := M.store (off := 0) 0 H0 Cc rfl rfl
 refine An V V hst ?_
 refine Ab V (Fu _ _ _) V ?_
 obtain ⟨w', hst, M⟩ := M.store (off := 1) 1 H1 Dp rfl rfl
 refine An V V hst ?_
 refine Ab V (Ga _ _ _) V ?_
 obtain ⟨w', hst, M⟩ := M.store (off := 2) 2 H2 BY rfl rfl
 refine An V V hst ?_
 refine Ar [(0, ptr p), (2, ptr w.heap.size)] ⟨V, V, trivial⟩ ?_
 obtain ⟨hl, h1, l, hchk, hrep⟩ := M.rep_st (sn := .part) rfl
 have B := M.blk.all
 obtain ⟨w', hst, M, _⟩ := M.self (N := 18) Eq hl h1
 exact Af (Aa (Ai V (Bg Eq hl B) V (An V V hst (Ae (AA fun a ha => BE V ha V (Bg Eq hl M.blk.all) (M.good_st V V))))))
theorem Q2 {n0 p k : Nat} (hX : BG n0 p 120 (.st .expr) k) : BG n0 p 193 (.st .sort) k := by
 intro s w hs hnk
 obtain ⟨Z, hz, hzl⟩ : ∃ Z : List Value, (∀ w, (zeroValue 286).run prog w = .ok (.agg Z.toArray) w) ∧ Z.length = Cy [16, 1, 1, 1] := ⟨_, zeroValue286, rfl⟩
 refine AB 16 func193 V V V ?_
 refine Af (Aa (AO (hz _) V (Ar [(0, ptr p), (2, ptr w.heap.size)] ⟨V, V, trivial⟩ ?_)))
 have M := MSt.new (tid := 286) (sz := [16, 1, 1, 1]) hs hzl
 have hcs : w.heap.size < (w.alloc (.cells Z.toArray 286)).heap.size := by simp
 show W _ _ _ _ _ _ (w.alloc (.cells Z.toArray 286))
 generalize w.alloc (.cells Z.toArray 286) = w1 at M hcs ⊢
 refine Af (Aa ?_)
 refine Ac V V ?_
 refine Aj call120 V V (hX _ _ M.rst (M.nest.trans hnk)) ?_ ?_
 rotate_left
 · intro ch w' hf a ha
   exact Am (Av ha (M.fail_st V V hf))
 rintro _ w' g
 obtain ⟨c0, s', rfl, M, H0, _⟩ := M.call g
 refine Ac V V ?_
 refine Aj call117 V V (I0 _ _ M.rst (M.nest.trans hnk)) ?_ ?_
 rotate_left
 · intro ch w' hf a ha
   exact Am (Av ha (M.fail_st V V hf))
 rintro _ w' g
 obtain ⟨c1, s', rfl, M, H1, _⟩ := M.call g
 refine Ac V V ?_
 refine Aj call117 V V (I0 _ _ M.rst (M.nest.trans hnk)) ?_ ?_
 rotate_left
 · intro ch w' hf a ha
   exact Am (Av ha (M.fail_st V V hf))
 rintro _ w' g
 obtain ⟨c2, s', rfl, M, H2, _⟩ := M.call g
 refine Ac V V ?_
 refine Aj call56 V V (Iu _ _ M.rst (M.nest.trans hnk)) ?_ ?_
 rotate_left
 · intro ch w' hf a ha
   exact Am (Av ha (M.fail_st V V hf))
 rintro _ w' g
 obtain ⟨c3, s', rfl, M, H3, _⟩ := M.call g
 refine Ab V (FT _ _ _) V ?_
 obtain ⟨w', hst, M⟩ := M.store (off := 0) 0 H0 BY rfl rfl
 refine An V V hst ?_
 refine Ab V (Fy _ _ _) V ?_
 obtain ⟨w', hst, M⟩ := M.store (off := 16) 1 H1 Dp rfl rfl
 refine An V V hst ?_
 refine Ab V (Gl _ _ _) V ?_
 obtain ⟨w', hst, M⟩ := M.store (off := 17) 2 H2 Dp rfl rfl
 refine An V V hst ?_
 refine Ab V (Gy _ _ _) V ?_
 obtain ⟨w', hst, M⟩ := M.store (off := 18) 3 H3 Cc rfl rfl
 refine An V V hst ?_
 refine Ar [(0, ptr p), (2, ptr w.heap.size)] ⟨V, V, trivial⟩ ?_
 obtain ⟨hl, h1, l, hchk, hrep⟩ := M.rep_st (sn := .sort) rfl
 have B := M.blk.all
 obtain ⟨w', hst, M, _⟩ := M.self (N := 19) DJ hl h1
 exact Af (Aa (Ai V (Bg DJ hl B) V (An V V hst (Ae (AA fun a ha => BE V ha V (Bg DJ hl M.blk.all) (M.good_st V V))))))
theorem Rk {n0 p k : Nat} (hX : BG n0 p 120 (.st .expr) k) : BG n0 p 195 (.st .source) k := by
 intro s w hs hnk
 obtain ⟨Z, hz, hzl⟩ : ∃ Z : List Value, (∀ w, (zeroValue 290).run prog w = .ok (.agg Z.toArray) w) ∧ Z.length = Cy [16, 1] := ⟨_, zeroValue290, rfl⟩
 refine AB 12 func195 V V V ?_
 refine Af (Aa (AO (hz _) V (Ar [(0, ptr p), (2, ptr w.heap.size)] ⟨V, V, trivial⟩ ?_)))
 have M := MSt.new (tid := 290) (sz := [16, 1]) hs hzl
 have hcs : w.heap.size < (w.alloc (.cells Z.toArray 290)).heap.size := by simp
 show W _ _ _ _ _ _ (w.alloc (.cells Z.toArray 290))
 generalize w.alloc (.cells Z.toArray 290) = w1 at M hcs ⊢
 refine Af (Aa ?_)
 refine Ac V V ?_
 refine Aj call120 V V (hX _ _ M.rst (M.nest.trans hnk)) ?_ ?_
 rotate_left
 · intro ch w' hf a ha
   exact Am (Av ha (M.fail_st V V hf))
 rintro _ w' g
 obtain ⟨c0, s', rfl, M, H0, _⟩ := M.call g
 refine Ab V (Gk _ _ _) V ?_
 obtain ⟨w', hst, M⟩ := M.store (off := 0) 0 H0 BY rfl rfl
 refine An V V hst ?_
 refine Ar [(0, ptr p), (2, ptr w.heap.size)] ⟨V, V, trivial⟩ ?_
 refine Af (Aa ?_)
 refine Ac V V ?_
 refine Ac V V ?_
 refine AH V V V ?_
 refine Aj call192 V V ((Qg (Q2 hX)) _ _ M.rst (M.nest.trans hnk)) ?_ ?_
 rotate_left
 · intro ch w' hf a ha
   exact Am (Av ha (M.fail_st V V hf))
 rintro _ w' g
 obtain ⟨c1, s', rfl, M, H1, _⟩ := M.call g
 refine Ab V (Fv _ _ _) V ?_
 obtain ⟨w', hst, M⟩ := M.store (off := 16) 1 H1 J1 rfl rfl
 refine An V V hst ?_
 refine Ar [(0, ptr p), (2, ptr w.heap.size)] ⟨V, V, trivial⟩ ?_
 obtain ⟨hl, h1, l, hchk, hrep⟩ := M.rep_st (sn := .source) rfl
 have B := M.blk.all
 obtain ⟨w', hst, M, _⟩ := M.self (N := 17) Fj hl h1
 exact Af (Aa (Ai V (Bg Fj hl B) V (An V V hst (Ae (AA fun a ha => BE V ha V (Bg Fj hl M.blk.all) (M.good_st V V))))))
theorem Sn {n0 p k : Nat} (hX : BG n0 p 120 (.st .expr) k) : BG n0 p 66 (.st .key) k := by
 intro s w hs hnk
 obtain ⟨Z, hz, hzl⟩ : ∃ Z : List Value, (∀ w, (zeroValue 76).run prog w = .ok (.agg Z.toArray) w) ∧ Z.length = Cy [1, 1, 16] := ⟨_, zeroValue76, rfl⟩
 refine AB 15 func66 V V V ?_
 refine Af (Aa (AO (hz _) V (Ar [(0, ptr p), (2, ptr w.heap.size)] ⟨V, V, trivial⟩ ?_)))
 have M := MSt.new (tid := 76) (sz := [1, 1, 16]) hs hzl
 have hcs : w.heap.size < (w.alloc (.cells Z.toArray 76)).heap.size := by simp
 show W _ _ _ _ _ _ (w.alloc (.cells Z.toArray 76))
 generalize w.alloc (.cells Z.toArray 76) = w1 at M hcs ⊢
 refine Af (Aa ?_)
 refine Ac V V ?_
 refine Aj call56 V V (Iu _ _ M.rst (M.nest.trans hnk)) ?_ ?_
 rotate_left
 · intro ch w' hf a ha
   exact Am (Av ha (M.fail_st V V hf))
 rintro _ w' g
 obtain ⟨c0, s', rfl, M, H0, _⟩ := M.call g
 refine Ab V (Hy _ _ _) V ?_
 obtain ⟨w', hst, M⟩ := M.store (off := 0) 0 H0 Cc rfl rfl
 refine An V V hst ?_
 refine Ar [(0, ptr p), (2, ptr w.heap.size)] ⟨V, V, trivial⟩ ?_
 refine Af (Aa ?_)
 refine Ac V V ?_
 refine Ac V V ?_
 refine AH V V V ?_
 refine Aj call119 V V ((OM hX) _ _ M.rst (M.nest.trans hnk)) ?_ ?_
 rotate_left
 · intro ch w' hf a ha
   exact Am (Av ha (M.fail_st V V hf))
 rintro _ w' g
 obtain ⟨c1, s', rfl, M, H1, _⟩ := M.call g
 refine Ab V (Ia _ _ _) V ?_
 obtain ⟨w', hst, M⟩ := M.store (off := 1) 1 H1 Eh rfl rfl
 refine An V V hst ?_
 refine Ar [(0, ptr p), (2, ptr w.heap.size)] ⟨V, V, trivial⟩ ?_
 refine Af (Aa ?_)
 refine Ac V V ?_
 refine Aj call120 V V (hX _ _ M.rst (M.nest.trans hnk)) ?_ ?_
 rotate_left
 · intro ch w' hf a ha
   exact Am (Av ha (M.fail_st V V hf))
 rintro _ w' g
 obtain ⟨c2, s', rfl, M, H2, _⟩ := M.call g
 refine Ab V (HK _ _ _) V ?_
 obtain ⟨w', hst, M⟩ := M.store (off := 2) 2 H2 BY rfl rfl
 refine An V V hst ?_
 refine Ar [(0, ptr p), (2, ptr w.heap.size)] ⟨V, V, trivial⟩ ?_
 obtain ⟨hl, h1, l, hchk, hrep⟩ := M.rep_st (sn := .key) rfl
 have B := M.blk.all
 obtain ⟨w', hst, M, _⟩ := M.self (N := 18) Ha hl h1
 exact Af (Aa (Ai V (Bg Ha hl B) V (An V V hst (Ae (AA fun a ha => BE V ha V (Bg Ha hl M.blk.all) (M.good_st V V))))))
theorem Rh {n0 p k : Nat} (hX : BG n0 p 120 (.st .expr) k) : BG n0 p 128 (.st .rule) k := by
 intro s w hs hnk
 obtain ⟨Z, hz, hzl⟩ : ∃ Z : List Value, (∀ w, (zeroValue 182).run prog w = .ok (.agg Z.toArray) w) ∧ Z.length = Cy [1, 1, 16] := ⟨_, zeroValue182, rfl⟩
 refine AB 15 func128 V V V ?_
 refine Af (Aa (AO (hz _) V (Ar [(0, ptr p), (2, ptr w.heap.size)] ⟨V, V, trivial⟩ ?_)))
 have M := MSt.new (tid := 182) (sz := [1, 1, 16]) hs hzl
 have hcs : w.heap.size < (w.alloc (.cells Z.toArray 182)).heap.size := by simp
 show W _ _ _ _ _ _ (w.alloc (.cells Z.toArray 182))
 generalize w.alloc (.cells Z.toArray 182) = w1 at M hcs ⊢
 refine Af (Aa ?_)
 refine Ac V V ?_
 refine Ac V V ?_
 refine AH V V V ?_
 refine Aj call119 V V ((OM hX) _ _ M.rst (M.nest.trans hnk)) ?_ ?_
 rotate_left
 · intro ch w' hf a ha
   exact Am (Av ha (M.fail_st V V hf))
 rintro _ w' g
 obtain ⟨c0, s', rfl, M, H0, _⟩ := M.call g
 refine Ab V (FR _ _ _) V ?_
 obtain ⟨w', hst, M⟩ := M.store (off := 0) 0 H0 Eh rfl rfl
 refine An V V hst ?_
 refine Ar [(0, ptr p), (2, ptr w.heap.size)] ⟨V, V, trivial⟩ ?_
 refine Af (Aa ?_)
 refine Ac V V ?_
 refine Aj call117 V V (I0 _ _ M.rst (M.nest.trans hnk)) ?_ ?_
 rotate_left
 · intro ch w' hf a ha
   exact Am (Av ha (M.fail_st V V hf))
 rintro _ w' g
 obtain ⟨c1, s', rfl, M, H1, _⟩ := M.call g
 refine Ac V V ?_
 refine Aj call120 V V (hX _ _ M.rst (M.nest.trans hnk)) ?_ ?_
 rotate_left
 · intro ch w' hf a ha
   exact Am (Av ha (M.fail_st V V hf))
 rintro _ w' g
 obtain ⟨c2, s', rfl, M, H2, _⟩ := M.call g
 refine Ab V (FJ _ _ _) V ?_
 obtain ⟨w', hst, M⟩ := M.store (off := 1) 1 H1 Dp rfl rfl
 refine An V V hst ?_
 refine Ab V (FC _ _ _) V ?_
 obtain ⟨w', hst, M⟩ := M.store (off := 2) 2 H2 BY rfl rfl
 refine An V V hst ?_
 refine Ar [(0, ptr p), (2, ptr w.heap.size)] ⟨V, V, trivial⟩ ?_
 obtain ⟨hl, h1, l, hchk, hrep⟩ := M.rep_st (sn := .rule) rfl
 have B := M.blk.all
 obtain ⟨w', hst, M, _⟩ := M.self (N := 18) Ew hl h1
 exact Af (Aa (Ai V (Bg Ew hl B) V (An V V hst (Ae (AA fun a ha => BE V ha V (Bg Ew hl M.blk.all) (M.good_st V V))))))
theorem Sa {n0 p k : Nat} (hX : BG n0 p 120 (.st .expr) k) : BG n0 p 68 (.st .accum) k := by
 intro s w hs hnk
 obtain ⟨Z, hz, hzl⟩ : ∃ Z : List Value, (∀ w, (zeroValue 151).run prog w = .ok (.agg Z.toArray) w) ∧ Z.length = Cy [1, 16, 1] := ⟨_, zeroValue151, rfl⟩
 refine AB 15 func68 V V V ?_
 refine Af (Aa (AO (hz _) V (Ar [(0, ptr p), (2, ptr w.heap.size)] ⟨V, V, trivial⟩ ?_)))
 have M := MSt.new (tid := 151) (sz := [1, 16, 1]) hs hzl
 have hcs : w.heap.size < (w.alloc (.cells Z.toArray 151)).heap.size := by simp
 show W _ _ _ _ _ _ (w.alloc (.cells Z.toArray 151))
 generalize w.alloc (.cells Z.toArray 151) = w1 at M hcs ⊢
 refine Af (Aa ?_)
 refine Ac V V ?_
 refine Aj call56 V V (Iu _ _ M.rst (M.nest.trans hnk)) ?_ ?_
 rotate_left
 · intro ch w' hf a ha
   exact Am (Av ha (M.fail_st V V hf))
 rintro _ w' g
 obtain ⟨c0, s', rfl, M, H0, _⟩ := M.call g
 refine Ac V V ?_
 refine Aj call120 V V (hX _ _ M.rst (M.nest.trans hnk)) ?_ ?_
 rotate_left
 · intro ch w' hf a ha
   exact Am (Av ha (M.fail_st V V hf))
 rintro _ w' g
 obtain ⟨c1, s', rfl, M, H1, _⟩ := M.call g
 refine Ab V (Fx _ _ _) V ?_
 obtain ⟨w', hst, M⟩ := M.store (off := 0) 0 H0 Cc rfl rfl
 refine An V V hst ?_
 refine Ab V (Gv _ _ _) V ?_
 obtain ⟨w', hst, M⟩ := M.store (off := 1) 1 H1 BY rfl rfl
 refine An V V hst ?_
 refine Ar [(0, ptr p), (2, ptr w.heap.size)] ⟨V, V, trivial⟩ ?_
 refine Af (Aa ?_)
 refine Ac V V ?_
 refine Ac V V ?_
 refine AH V V V ?_
 refine Aj call127 V V ((QK (Rh hX)) _ _ M.rst (M.nest.trans hnk)) ?_ ?_
 rotate_left
 · intro ch w' hf a ha
   exact Am (Av ha (M.fail_st V V hf))
 rintro _ w' g
 obtain ⟨c2, s', rfl, M, H2, _⟩ := M.call g
 refine Ab V (CZ _ _ _) V ?_
 obtain ⟨w', hst, M⟩ := M.store (off := 17) 2 H2 Fb rfl rfl
 refine An V V hst ?_
 refine Ar [(0, ptr p), (2, ptr w.heap.size)] ⟨V, V, trivial⟩ ?_
 obtain ⟨hl, h1, l, hchk, hrep⟩ := M.rep_st (sn := .accum) rfl
 have B := M.blk.all
 obtain ⟨w', hst, M, _⟩ := M.self (N := 18) Ds hl h1
 exact Af (Aa (Ai V (Bg Ds hl B) V (An V V hst (Ae (AA fun a ha => BE V ha V (Bg Ds hl M.blk.all) (M.good_st V V))))))
theorem RC {n0 p k : Nat} (hI : BG n0 p 125 (.st .instr) k) : BG n0 p 197 (.st .ctch) k := by
 intro s w hs hnk
 obtain ⟨Z, hz, hzl⟩ : ∃ Z : List Value, (∀ w, (zeroValue 294).run prog w = .ok (.agg Z.toArray) w) ∧ Z.length = Cy [1, 1] := ⟨_, zeroValue294, rfl⟩
 refine AB 14 func197 V V V ?_
 refine Af (Aa (AO (hz _) V (Ar [(0, ptr p), (2, ptr w.heap.size)] ⟨V, V, trivial⟩ ?_)))
 have M := MSt.new (tid := 294) (sz := [1, 1]) hs hzl
 have hcs : w.heap.size < (w.alloc (.cells Z.toArray 294)).heap.size := by simp
 show W _ _ _ _ _ _ (w.alloc (.cells Z.toArray 294))
 generalize w.alloc (.cells Z.toArray 294) = w1 at M hcs ⊢
 refine Af (Aa ?_)
 refine Ac V V ?_
 refine Ac V V ?_
 refine AH V V V ?_
 refine Aj call241 V V ((R3 Ez) _ _ M.rst (M.nest.trans hnk)) ?_ ?_
 rotate_left
 · intro ch w' hf a ha
   exact Am (Av ha (M.fail_st V V hf))
 rintro _ w' g
 obtain ⟨c0, s', rfl, M, H0, _⟩ := M.call g
 refine Ab V (DX _ _ _) V ?_
 obtain ⟨w', hst, M⟩ := M.store (off := 0) 0 H0 Hp rfl rfl
 refine An V V hst ?_
 refine Ar [(0, ptr p), (2, ptr w.heap.size)] ⟨V, V, trivial⟩ ?_
 refine Af (Aa ?_)
 refine Ac V V ?_
 refine Ac V V ?_
 refine AH V V V ?_
 refine Aj call124 V V ((ND hI) _ _ M.rst (M.nest.trans hnk)) ?_ ?_
 rotate_left
 · intro ch w' hf a ha
   exact Am (Av ha (M.fail_st V V hf))
 rintro _ w' g
 obtain ⟨c1, s', rfl, M, H1, _⟩ := M.call g
 refine Ab V (FU _ _ _) V ?_
 obtain ⟨w', hst, M⟩ := M.store (off := 1) 1 H1 Dt rfl rfl
 refine An V V hst ?_
 refine Ar [(0, ptr p), (2, ptr w.heap.size)] ⟨V, V, trivial⟩ ?_
 obtain ⟨hl, h1, l, hchk, hrep⟩ := M.rep_st (sn := .ctch) rfl
 have B := M.blk.all
 obtain ⟨w', hst, M, _⟩ := M.self (N := 2) E7 hl h1
 exact Af (Aa (Ai V (Bg E7 hl B) V (An V V hst (Ae (AA fun a ha => BE V ha V (Bg E7 hl M.blk.all) (M.good_st V V))))))
theorem Pv {n0 p k : Nat} (hX : BG n0 p 120 (.st .expr) k) (hI : BG n0 p 125 (.st .instr) k) : BG n0 p 123 (.st .param) k := by
 intro s w hs hnk
 obtain ⟨Z, hz, hzl⟩ : ∃ Z : List Value, (∀ w, (zeroValue 216).run prog w = .ok (.agg Z.toArray) w) ∧ Z.length = Cy [1, 5, 1, 16, 1] := ⟨_, zeroValue216, rfl⟩
 refine AB 21 func123 V V V ?_
 refine Af (Aa (AO (hz _) V (Ar [(0, ptr p), (2, ptr w.heap.size)] ⟨V, V, trivial⟩ ?_)))
 have M := MSt.new (tid := 216) (sz := [1, 5, 1, 16, 1]) hs hzl
 have hcs : w.heap.size < (w.alloc (.cells Z.toArray 216)).heap.size := by simp
 show W _ _ _ _ _ _ (w.alloc (.cells Z.toArray 216))
 generalize w.alloc (.cells Z.toArray 216) = w1 at M hcs ⊢
 refine Af (Aa ?_)
 refine Ac V V ?_
 refine Aj call56 V V (Iu _ _ M.rst (M.nest.trans hnk)) ?_ ?_
 rotate_left
 · intro ch w' hf a ha
   exact Am (Av ha (M.fail_st V V hf))
 rintro _ w' g
 obtain ⟨c0, s', rfl, M, H0, _⟩ := M.call g
 refine Ac V V ?_
 refine Aj call126 V V (Of _ _ M.rst (M.nest.trans hnk)) ?_ ?_
 rotate_left
 · intro ch w' hf a ha
   exact Am (Av ha (M.fail_st V V hf))
 rintro _ w' g
 obtain ⟨c1, s', rfl, M, H1, _⟩ := M.call g
 refine Ac V V ?_
 refine Aj call117 V V (I0 _ _ M.rst (M.nest.trans hnk)) ?_ ?_
 rotate_left
 · intro ch w' hf a ha
   exact Am (Av ha (M.fail_st V V hf))
 rintro _ w' g
 obtain ⟨c2, s', rfl, M, H2, _⟩ := M.call g
 refine Ac V V ?_
 refine Aj call120 V V (hX _ _ M.rst (M.nest.trans hnk)) ?_ ?_
 rotate_left
 · intro ch w' hf a ha
   exact Am (Av ha (M.fail_st V V hf))
 rintro _ w' g
 obtain ⟨c3, s', rfl, M, H3, _⟩ := M.call g
 refine Ab V (Gg _ _ _) V ?_
 obtain ⟨w', hst, M⟩ := M.store (off := 0) 0 H0 Cc rfl rfl
 refine An V V hst ?_
 refine Ab V (Gm _ _ _) V ?_
 obtain ⟨w', hst, M⟩ := M.store (off := 1) 1 H1 D9 rfl rfl
 refine An V V hst ?_
 refine Ab V (F8 _ _ _) V ?_
 obtain ⟨w', hst, M⟩ := M.store (off := 6) 2 H2 Dp rfl rfl
 refine An V V hst ?_
 refine Ab V (FB _ _ _) V ?_
 obtain ⟨w', hst, M⟩ := M.store (off := 7) 3 H3 BY rfl rfl
 refine An V V hst ?_
 refine Ar [(0, ptr p), (2, ptr w.heap.size)] ⟨V, V, trivial⟩ ?_
 refine Af (Aa ?_)
 refine Ac V V ?_
 refine Ac V V ?_
 refine AH V V V ?_
 refine Aj call124 V V ((ND hI) _ _ M.rst (M.nest.trans hnk)) ?_ ?_
 rotate_left
 · intro ch w' hf a ha
   exact Am (Av ha (M.fail_st V V hf))
 rintro _ w' g
 obtain ⟨c4, s', rfl, M, H4, _⟩ := M.call g
 refine Ab V (Gq _ _ _) V ?_
 obtain ⟨w', hst, M⟩ := M.store (off := 23) 4 H4 Dt rfl rfl
 refine An V V hst ?_
 refine Ar [(0, ptr p), (2, ptr w.heap.size)] ⟨V, V, trivial⟩ ?_
 obtain ⟨hl, h1, l, hchk, hrep⟩ := M.rep_st (sn := .param) rfl
 have B := M.blk.all
 obtain ⟨w', hst, M, _⟩ := M.self (N := 24) D2 hl h1
 exact Af (Aa (Ai V (Bg D2 hl B) V (An V V hst (Ae (AA fun a ha => BE V ha V (Bg D2 hl M.blk.all) (M.good_st V V))))))
theorem Sk {n0 p k : Nat} (hX : BG n0 p 120 (.st .expr) k) (hI : BG n0 p 125 (.st .instr) k) : BG n0 p 60 (.st .template) k := by
 intro s w hs hnk
 obtain ⟨Z, hz, hzl⟩ : ∃ Z : List Value, (∀ w, (zeroValue 74).run prog w = .ok (.agg Z.toArray) w) ∧ Z.length = Cy [1, 1, 1, 1, 1, 1, 1, 1, 1, 1, 1, 1] := ⟨_, zeroValue74, rfl⟩
 refine AB 48 func60 V V V ?_
 refine Af (Aa (AO (hz _) V (Ar [(0, ptr p), (2, ptr w.heap.size)] ⟨V, V, trivial⟩ ?_)))
 have M := MSt.new (tid := 74) (sz := [1, 1, 1, 1, 1, 1, 1, 1, 1, 1, 1, 1]) hs hzl
 have hcs : w.heap.size < (w.alloc (.cells Z.toArray 74)).heap.size := by simp
 show W _ _ _ _ _ _ (w.alloc (.cells Z.toArray 74))
 generalize w.alloc (.cells Z.toArray 74) = w1 at M hcs ⊢
 refine Af (Aa ?_)
 refine Ac V V ?_
 refine Ac V V ?_
 refine AH V V V ?_
 refine Aj call119 V V ((OM hX) _ _ M.rst (M.nest.trans hnk)) ?_ ?_
 rotate_left
 · intro ch w' hf a ha
   exact Am (Av ha (M.fail_st V V hf))
 rintro _ w' g
 obtain ⟨c0, s', rfl, M, H0, _⟩ := M.call g
 refine Ab V (HQ _ _ _) V ?_
 obtain ⟨w', hst, M⟩ := M.store (off := 0) 0 H0 Eh rfl rfl
 refine An V V hst ?_
 refine Ar [(0, ptr p), (2, ptr w.heap.size)] ⟨V, V, trivial⟩ ?_
 refine Af (Aa ?_)
 refine Ac V V ?_
 refine Aj call56 V V (Iu _ _ M.rst (M.nest.trans hnk)) ?_ ?_
 rotate_left
 · intro ch w' hf a ha
   exact Am (Av ha (M.fail_st V V hf))
 rintro _ w' g
 obtain ⟨c1, s', rfl, M, H1, _⟩ := M.call g
 refine Ab V (HD _ _ _) V ?_
 obtain ⟨w', hst, M⟩ := M.store (off := 1) 1 H1 Cc rfl rfl
 refine An V V hst ?_
 refine Ar [(0, ptr p), (2, ptr w.heap.size)] ⟨V, V, trivial⟩ ?_
 refine Af (Aa ?_)
 refine Ac V V ?_
 refine Ac V V ?_
 refine AH V V V ?_
 refine Aj call121 V V ((OS Iu) _ _ M.rst (M.nest.trans hnk)) ?_ ?_
 rotate_left
 · intro ch w' hf a ha
   exact Am (Av ha (M.fail_st V V hf))
 rintro _ w' g
 obtain ⟨c2, s', rfl, M, H2, _⟩ := M.call g
 refine Ab V (HE _ _ _) V ?_
 obtain ⟨w', hst, M⟩ := M.store (off := 2) 2 H2 D_ rfl rfl
 refine An V V hst ?_
 refine Ar [(0, ptr p), (2, ptr w.heap.size)] ⟨V, V, trivial⟩ ?_
 refine Af (Aa ?_)
 refine Ac V V ?_
 refine Aj call117 V V (I0 _ _ M.rst (M.nest.trans hnk)) ?_ ?_
 rotate_left
 · intro ch w' hf a ha
   exact Am (Av ha (M.fail_st V V hf))
 rintro _ w' g
 obtain ⟨c3, s', rfl, M, H3, _⟩ := M.call g
 refine Ac V V ?_
 refine Aj call56 V V (Iu _ _ M.rst (M.nest.trans hnk)) ?_ ?_
 rotate_left
 · intro ch w' hf a ha
   exact Am (Av ha (M.fail_st V V hf))
 rintro _ w' g
 obtain ⟨c4, s', rfl, M, H4, _⟩ := M.call g
 refine Ab V (Hs _ _ _) V ?_
 obtain ⟨w', hst, M⟩ := M.store (off := 3) 3 H3 Dp rfl rfl
 refine An V V hst ?_
 refine Ab V (Hu _ _ _) V ?_
 obtain ⟨w', hst, M⟩ := M.store (off := 4) 4 H4 Cc rfl rfl
 refine An V V hst ?_
 refine Ar [(0, ptr p), (2, ptr w.heap.size)] ⟨V, V, trivial⟩ ?_
 refine Af (Aa ?_)
 refine Ac V V ?_
 refine Ac V V ?_
 refine AH V V V ?_
 refine Aj call122 V V ((PF (Pv hX hI)) _ _ M.rst (M.nest.trans hnk)) ?_ ?_
 rotate_left
 · intro ch w' hf a ha
   exact Am (Av ha (M.fail_st V V hf))
 rintro _ w' g
 obtain ⟨c5, s', rfl, M, H5, _⟩ := M.call g
 refine Ab V (HC _ _ _) V ?_
 obtain ⟨w', hst, M⟩ := M.store (off := 5) 5 H5 GT rfl rfl
 refine An V V hst ?_
 refine Ar [(0, ptr p), (2, ptr w.heap.size)] ⟨V, V, trivial⟩ ?_
 refine Af (Aa ?_)
 refine Ac V V ?_
 refine Ac V V ?_
 refine AH V V V ?_
 refine Aj call124 V V ((ND hI) _ _ M.rst (M.nest.trans hnk)) ?_ ?_
 rotate_left
 · intro ch w' hf a ha
   exact Am (Av ha (M.fail_st V V hf))
 rintro _ w' g
 obtain ⟨c6, s', rfl, M, H6, _⟩ := M.call g
 refine Ab V (Hx _ _ _) V ?_
 obtain ⟨w', hst, M⟩ := M.store (off := 6) 6 H6 Dt rfl rfl
 refine An V V hst ?_
 refine Ar [(0, ptr p), (2, ptr w.heap.size)] ⟨V, V, trivial⟩ ?_
 refine Af (Aa ?_)
 refine Ac V V ?_
 refine Aj call56 V V (Iu _ _ M.rst (M.nest.trans hnk)) ?_ ?_
 rotate_left
 · intro ch w' hf a ha
   exact Am (Av ha (M.fail_st V V hf))
 rintro _ w' g
 obtain ⟨c7, s', rfl, M, H7, _⟩ := M.call g
 refine Ac V V ?_
 refine Aj call118 V V (Ez _ _ M.rst (M.nest.trans hnk)) ?_ ?_
 rotate_left
 · intro ch w' hf a ha
   exact Am (Av ha (M.fail_st V V hf))
 rintro _ w' g
 obtain ⟨c8, s', rfl, M, H8, _⟩ := M.call g
 refine Ac V V ?_
 refine Aj call118 V V (Ez _ _ M.rst (M.nest.trans hnk)) ?_ ?_
 rotate_left
 · intro ch w' hf a ha
   exact Am (Av ha (M.fail_st V V hf))
 rintro _ w' g
 obtain ⟨c9, s', rfl, M, H9, _⟩ := M.call g
 refine Ac V V ?_
 refine Aj call118 V V (Ez _ _ M.rst (M.nest.trans hnk)) ?_ ?_
 rotate_left
 · intro ch w' hf a ha
   exact Am (Av ha (M.fail_st V V hf))
 rintro _ w' g
 obtain ⟨c10, s', rfl, M, H10, _⟩ := M.call g
 refine Ac V V ?_
 refine Aj call118 V V (Ez _ _ M.rst (M.nest.trans hnk)) ?_ ?_
 rotate_left
 · intro ch w' hf a ha
   exact Am (Av ha (M.fail_st V V hf))
 rintro _ w' g
 obtain ⟨c11, s', rfl, M, H11, _⟩ := M.call g
 refine Ab V (HU _ _ _) V ?_
 obtain ⟨w', hst, M⟩ := M.store (off := 7) 7 H7 Cc rfl rfl
 refine An V V hst ?_
 refine Ab V (H_ _ _ _) V ?_
 obtain ⟨w', hst, M⟩ := M.store (off := 8) 8 H8 Cj rfl rfl
 refine An V V hst ?_
 refine Ab V (HP _ _ _) V ?_
 obtain ⟨w', hst, M⟩ := M.store (off := 9) 9 H9 Cj rfl rfl
 refine An V V hst ?_
 refine Ab V (F_ _ _ _) V ?_
 obtain ⟨w', hst, M⟩ := M.store (off := 10) 10 H10 Cj rfl rfl
 refine An V V hst ?_
 refine Ab V (Gp _ _ _) V ?_
 obtain ⟨w', hst, M⟩ := M.store (off := 11) 11 H11 Cj rfl rfl
 refine An V V hst ?_
 refine Ar [(0, ptr p), (2, ptr w.heap.size)] ⟨V, V, trivial⟩ ?_
 obtain ⟨hl, h1, l, hchk, hrep⟩ := M.rep_st (sn := .template) rfl
 have B := M.blk.all
 obtain ⟨w', hst, M, _⟩ := M.self (N := 12) Hd hl h1
 exact Af (Aa (Ai V (Bg Hd hl B) V (An V V hst (Ae (AA fun a ha => BE V ha V (Bg Hd hl M.blk.all) (M.good_st V V))))))
theorem RW {n0 p k : Nat} (hX : BG n0 p 120 (.st .expr) k) (hI : BG n0 p 125 (.st .instr) k) : BG n0 p 62 (.st .dfn) k := by
 intro s w hs hnk
 obtain ⟨Z, hz, hzl⟩ : ∃ Z : List Value, (∀ w, (zeroValue 140).run prog w = .ok (.agg Z.toArray) w) ∧ Z.length = Cy [1, 1, 5, 16, 1, 1, 1, 1] := ⟨_, zeroValue140, rfl⟩
 refine AB 30 func62 V V V ?_
 refine Af (Aa (AO (hz _) V (Ar [(0, ptr p), (2, ptr w.heap.size)] ⟨V, V, trivial⟩ ?_)))
 have M := MSt.new (tid := 140) (sz := [1, 1, 5, 16, 1, 1, 1, 1]) hs hzl
 have hcs : w.heap.size < (w.alloc (.cells Z.toArray 140)).heap.size := by simp
 show W _ _ _ _ _ _ (w.alloc (.cells Z.toArray 140))
 generalize w.alloc (.cells Z.toArray 140) = w1 at M hcs ⊢
 refine Af (Aa ?_)
 refine Ac V V ?_
 refine Aj call56 V V (Iu _ _ M.rst (M.nest.trans hnk)) ?_ ?_
 rotate_left
 · intro ch w' hf a ha
   exact Am (Av ha (M.fail_st V V hf))
 rintro _ w' g
 obtain ⟨c0, s', rfl, M, H0, _⟩ := M.call g
 refine Ab V (FO _ _ _) V ?_
 obtain ⟨w', hst, M⟩ := M.store (off := 0) 0 H0 Cc rfl rfl
 refine An V V hst ?_
 refine Ar [(0, ptr p), (2, ptr w.heap.size)] ⟨V, V, trivial⟩ ?_
 refine Af (Aa ?_)
 refine Ac V V ?_
 refine Ac V V ?_
 refine AH V V V ?_
 refine Aj call122 V V ((PF (Pv hX hI)) _ _ M.rst (M.nest.trans hnk)) ?_ ?_
 rotate_left
 · intro ch w' hf a ha
   exact Am (Av ha (M.fail_st V V hf))
 rintro _ w' g
 obtain ⟨c1, s', rfl, M, H1, _⟩ := M.call g
 refine Ab V (Gf _ _ _) V ?_
 obtain ⟨w', hst, M⟩ := M.store (off := 1) 1 H1 GT rfl rfl
 refine An V V hst ?_
 refine Ar [(0, ptr p), (2, ptr w.heap.size)] ⟨V, V, trivial⟩ ?_
 refine Af (Aa ?_)
 refine Ac V V ?_
 refine Aj call126 V V (Of _ _ M.rst (M.nest.trans hnk)) ?_ ?_
 rotate_left
 · intro ch w' hf a ha
   exact Am (Av ha (M.fail_st V V hf))
 rintro _ w' g
 obtain ⟨c2, s', rfl, M, H2, _⟩ := M.call g
 refine Ac V V ?_
 refine Aj call120 V V (hX _ _ M.rst (M.nest.trans hnk)) ?_ ?_
 rotate_left
 · intro ch w' hf a ha
   exact Am (Av ha (M.fail_st V V hf))
 rintro _ w' g
 obtain ⟨c3, s', rfl, M, H3, _⟩ := M.call g
 refine Ab V (Gc _ _ _) V ?_
 obtain ⟨w', hst, M⟩ := M.store (off := 2) 2 H2 D9 rfl rfl
 refine An V V hst ?_
 refine Ab V (FZ _ _ _) V ?_
 obtain ⟨w', hst, M⟩ := M.store (off := 7) 3 H3 BY rfl rfl
 refine An V V hst ?_
 refine Ar [(0, ptr p), (2, ptr w.heap.size)] ⟨V, V, trivial⟩ ?_
 refine Af (Aa ?_)
 refine Ac V V ?_
 refine Aj call56 V V (Iu _ _ M.rst (M.nest.trans hnk)) ?_ ?_
 rotate_left
 · intro ch w' hf a ha
   exact Am (Av ha (M.fail_st V V hf))
 rintro _ w' g
 obtain ⟨c4, s', rfl, M, H4, _⟩ := M.call g
 refine Ac V V ?_
 refine Aj call118 V V (Ez _ _ M.rst (M.nest.trans hnk)) ?_ ?_
 rotate_left
 · intro ch w' hf a ha
   exact Am (Av ha (M.fail_st V V hf))
 rintro _ w' g
 obtain ⟨c5, s', rfl, M, H5, _⟩ := M.call g
 refine Ac V V ?_
 refine Aj call118 V V (Ez _ _ M.rst (M.nest.trans hnk)) ?_ ?_
 rotate_left
 · intro ch w' hf a ha
   exact Am (Av ha (M.fail_st V V hf))
 rintro _ w' g
 obtain ⟨c6, s', rfl, M, H6, _⟩ := M.call g
 refine Ac V V ?_
 refine Aj call118 V V (Ez _ _ M.rst (M.nest.trans hnk)) ?_ ?_
 rotate_left
 · intro ch w' hf a ha
   exact Am (Av ha (M.fail_st V V hf))
 rintro _ w' g
 obtain ⟨c7, s', rfl, M, H7, _⟩ := M.call g
 refine Ab V (FS _ _ _) V ?_
 obtain ⟨w', hst, M⟩ := M.store (off := 23) 4 H4 Cc rfl rfl
 refine An V V hst ?_
 refine Ab V (Gw _ _ _) V ?_
 obtain ⟨w', hst, M⟩ := M.store (off := 24) 5 H5 Cj rfl rfl
 refine An V V hst ?_
 refine Ab V (FA _ _ _) V ?_
 obtain ⟨w', hst, M⟩ := M.store (off := 25) 6 H6 Cj rfl rfl
 refine An V V hst ?_
 refine Ab V (Gu _ _ _) V ?_
 obtain ⟨w', hst, M⟩ := M.store (off := 26) 7 H7 Cj rfl rfl
 refine An V V hst ?_
 refine Ar [(0, ptr p), (2, ptr w.heap.size)] ⟨V, V, trivial⟩ ?_
 obtain ⟨hl, h1, l, hchk, hrep⟩ := M.rep_st (sn := .dfn) rfl
 have B := M.blk.all
 obtain ⟨w', hst, M, _⟩ := M.self (N := 27) Et hl h1
 exact Af (Aa (Ai V (Bg Et hl B) V (An V V hst (Ae (AA fun a ha => BE V ha V (Bg Et hl M.blk.all) (M.good_st V V))))))
theorem RY {n0 p k : Nat} (hX : BG n0 p 120 (.st .expr) k) (hI : BG n0 p 125 (.st .instr) k) : BG n0 p 64 (.st .global) k := by
 intro s w hs hnk
 obtain ⟨Z, hz, hzl⟩ : ∃ Z : List Value, (∀ w, (zeroValue 144).run prog w = .ok (.agg Z.toArray) w) ∧ Z.length = Cy [1, 1, 5, 1, 16, 1, 1, 1, 1, 1] := ⟨_, zeroValue144, rfl⟩
 refine AB 36 func64 V V V ?_
 refine Af (Aa (AO (hz _) V (Ar [(0, ptr p), (2, ptr w.heap.size)] ⟨V, V, trivial⟩ ?_)))
 have M := MSt.new (tid := 144) (sz := [1, 1, 5, 1, 16, 1, 1, 1, 1, 1]) hs hzl
 have hcs : w.heap.size < (w.alloc (.cells Z.toArray 144)).heap.size := by simp
 show W _ _ _ _ _ _ (w.alloc (.cells Z.toArray 144))
 generalize w.alloc (.cells Z.toArray 144) = w1 at M hcs ⊢
 refine Af (Aa ?_)
 refine Ac V V ?_
 refine Aj call56 V V (Iu _ _ M.rst (M.nest.trans hnk)) ?_ ?_
 rotate_left
 · intro ch w' hf a ha
   exact Am (Av ha (M.fail_st V V hf))
 rintro _ w' g
 obtain ⟨c0, s', rfl, M, H0, _⟩ := M.call g
 refine Ac V V ?_
 refine Aj call117 V V (I0 _ _ M.rst (M.nest.trans hnk)) ?_ ?_
 rotate_left
 · intro ch w' hf a ha
   exact Am (Av ha (M.fail_st V V hf))
 rintro _ w' g
 obtain ⟨c1, s', rfl, M, H1, _⟩ := M.call g
 refine Ac V V ?_
 refine Aj call126 V V (Of _ _ M.rst (M.nest.trans hnk)) ?_ ?_
 rotate_left
 · intro ch w' hf a ha
   exact Am (Av ha (M.fail_st V V hf))
 rintro _ w' g
 obtain ⟨c2, s', rfl, M, H2, _⟩ := M.call g
 refine Ac V V ?_
 refine Aj call117 V V (I0 _ _ M.rst (M.nest.trans hnk)) ?_ ?_
 rotate_left
 · intro ch w' hf a ha
   exact Am (Av ha (M.fail_st V V hf))
 rintro _ w' g
 obtain ⟨c3, s', rfl, M, H3, _⟩ := M.call g
 refine Ac V V ?_
 refine Aj call120 V V (hX _ _ M.rst (M.nest.trans hnk)) ?_ ?_
 rotate_left
 · intro ch w' hf a ha
   exact Am (Av ha (M.fail_st V V hf))
 rintro _ w' g
 obtain ⟨c4, s', rfl, M, H4, _⟩ := M.call g
 refine Ab V (FL _ _ _) V ?_
 obtain ⟨w', hst, M⟩ := M.store (off := 0) 0 H0 Cc rfl rfl
 refine An V V hst ?_
 refine Ab V (FH _ _ _) V ?_
 obtain ⟨w', hst, M⟩ := M.store (off := 1) 1 H1 Dp rfl rfl
 refine An V V hst ?_
 refine Ab V (FI _ _ _) V ?_
 obtain ⟨w', hst, M⟩ := M.store (off := 2) 2 H2 D9 rfl rfl
 refine An V V hst ?_
 refine Ab V (FF _ _ _) V ?_
 obtain ⟨w', hst, M⟩ := M.store (off := 7) 3 H3 Dp rfl rfl
 refine An V V hst ?_
 refine Ab V (Fw _ _ _) V ?_
 obtain ⟨w', hst, M⟩ := M.store (off := 8) 4 H4 BY rfl rfl
 refine An V V hst ?_
 refine Ar [(0, ptr p), (2, ptr w.heap.size)] ⟨V, V, trivial⟩ ?_
 refine Af (Aa ?_)
 refine Ac V V ?_
 refine Ac V V ?_
 refine AH V V V ?_
 refine Aj call124 V V ((ND hI) _ _ M.rst (M.nest.trans hnk)) ?_ ?_
 rotate_left
 · intro ch w' hf a ha
   exact Am (Av ha (M.fail_st V V hf))
 rintro _ w' g
 obtain ⟨c5, s', rfl, M, H5, _⟩ := M.call g
 refine Ab V (FV _ _ _) V ?_
 obtain ⟨w', hst, M⟩ := M.store (off := 24) 5 H5 Dt rfl rfl
 refine An V V hst ?_
 refine Ar [(0, ptr p), (2, ptr w.heap.size)] ⟨V, V, trivial⟩ ?_
 refine Af (Aa ?_)
 refine Ac V V ?_
 refine Aj call56 V V (Iu _ _ M.rst (M.nest.trans hnk)) ?_ ?_
 rotate_left
 · intro ch w' hf a ha
   exact Am (Av ha (M.fail_st V V hf))
 rintro _ w' g
 obtain ⟨c6, s', rfl, M, H6, _⟩ := M.call g
 refine Ac V V ?_
 refine Aj call118 V V (Ez _ _ M.rst (M.nest.trans hnk)) ?_ ?_
 rotate_left
 · intro ch w' hf a ha
   exact Am (Av ha (M.fail_st V V hf))
 rintro _ w' g
 obtain ⟨c7, s', rfl, M, H7, _⟩ := M.call g
 refine Ac V V ?_
 refine Aj call118 V V (Ez _ _ M.rst (M.nest.trans hnk)) ?_ ?_
 rotate_left
 · intro ch w' hf a ha
   exact Am (Av ha (M.fail_st V V hf))
 rintro _ w' g
 obtain ⟨c8, s', rfl, M, H8, _⟩ := M.call g
 refine Ac V V ?_
 refine Aj call118 V V (Ez _ _ M.rst (M.nest.trans hnk)) ?_ ?_
 rotate_left
 · intro ch w' hf a ha
   exact Am (Av ha (M.fail_st V V hf))
 rintro _ w' g
 obtain ⟨c9, s', rfl, M, H9, _⟩ := M.call g
 refine Ab V (FQ _ _ _) V ?_
 obtain ⟨w', hst, M⟩ := M.store (off := 25) 6 H6 Cc rfl rfl
 refine An V V hst ?_
 refine Ab V (F2 _ _ _) V ?_
 obtain ⟨w', hst, M⟩ := M.store (off := 26) 7 H7 Cj rfl rfl
 refine An V V hst ?_
 refine Ab V (Gh _ _ _) V ?_
 obtain ⟨w', hst, M⟩ := M.store (off := 27) 8 H8 Cj rfl rfl
 refine An V V hst ?_
 refine Ab V (FW _ _ _) V ?_
 obtain ⟨w', hst, M⟩ := M.store (off := 28) 9 H9 Cj rfl rfl
 refine An V V hst ?_
 refine Ar [(0, ptr p), (2, ptr w.heap.size)] ⟨V, V, trivial⟩ ?_
 obtain ⟨hl, h1, l, hchk, hrep⟩ := M.rep_st (sn := .global) rfl
 have B := M.blk.all
 obtain ⟨w', hst, M, _⟩ := M.self (N := 29) Em hl h1
 exact Af (Aa (Ai V (Bg Em hl B) V (An V V hst (Ae (AA fun a ha => BE V ha V (Bg Em hl M.blk.all) (M.good_st V V))))))
end Go.Sx
namespace Go.Sx
open Go.Proofs Go.Proofs.Tryz
def exprFlat : List Ty := [.int, .str, .str, .int, .int, .str, .int, .st .test, .st .type, .list .str, .list (.st .expr)]
theorem KR : ∀ (pre post : List Ty) (l : List T) (s s' : RS), BT l (pre ++ .st .atom :: post) s = some s' → ∃ l', BT l' (pre ++ .int :: .str :: post) s = some s'
 | [], post, [], s, s', h => by simp only [List.nil_append, BT] at h; cases h
 | [], post, t :: l, s, s', h => by
  simp only [List.nil_append, BT, Option.bind_eq_some_iff] at h
  obtain ⟨u, hu, h⟩ := h
  cases t <;> simp only [CK] at hu <;> try cases hu
  split at hu
  · have hd : SN.atom.deep = false := rfl
    rw [hd] at hu
    simp only [SN.fields] at hu
    rename_i sn lt _
    match lt, hu with
    | [a, b], hu =>
     simp only [BT, Option.bind_eq_some_iff] at hu
     obtain ⟨v, hv, u', hu', hu⟩ := hu
     simp only [Option.some.injEq] at hu; subst hu
     exact ⟨a :: b :: l, by simp only [List.nil_append, BT, hv, hu', Option.bind_some]; exact h⟩
    | [], hu => simp only [BT] at hu; cases hu
    | [a], hu =>
     simp only [BT, Option.bind_eq_some_iff] at hu
     obtain ⟨v, hv, hu⟩ := hu; cases hu
    | a :: b :: x :: y, hu =>
     simp only [BT, Option.bind_eq_some_iff] at hu
     obtain ⟨v, hv, u', hu', hu⟩ := hu; cases hu
  · cases hu
 | f :: pre, post, [], s, s', h => by simp only [List.cons_append, BT] at h; cases h
 | f :: pre, post, t :: l, s, s', h => by
  simp only [List.cons_append, BT, Option.bind_eq_some_iff] at h
  obtain ⟨u, hu, h⟩ := h
  obtain ⟨l', hl'⟩ := KR pre post l u s' h
  exact ⟨t :: l', by simp only [List.cons_append, BT, hu, Option.bind_some]; exact hl'⟩
theorem Dy {fs gs : List Ty} {f : Ty} {l : List T} {s s1 : RS} (hf : exprFlat = fs ++ f :: gs) (h : BT l fs { s with nest := s.nest + 1 } = some s1) (hb : L1 f s1) : L1 (.st .expr) s := by
 have key : ∀ l', BT l' SN.expr.fields { s with nest := s.nest + 1 } = none := by
  intro l'
  cases hc : BT l' SN.expr.fields { s with nest := s.nest + 1 } with
  | none => rfl
  | some u =>
   obtain ⟨l'', h2⟩ := KR [.int, .str, .str, .int] [.int, .st .test, .st .type, .list .str, .list (.st .expr)] l' _ u hc
   have h3 := HG l fs f gs _ s1 h hb l''
   rw [← hf] at h3
   have h4 : BT l'' exprFlat { s with nest := s.nest + 1 } = some u := h2
   rw [h3] at h4; cases h4
 intro t
 cases t <;> simp only [CK]
 split
 · have hd : SN.expr.deep = true := rfl
   rw [hd]; simp only [key, Option.map_none, ite_self]
 · rfl
theorem RepC.cons_inv {w : World} {S : Nat → Prop} {f : Ty} {fs : List Ty} : ∀ {l : List T} {cs : List (List Value)}, RepC w S l (f :: fs) cs → ∃ t l' c cs', l = t :: l' ∧ cs = c :: cs' ∧ Rep w S t f c ∧ RepC w S l' fs cs'
 | t :: l, c :: cs, h => ⟨t, l, c, cs, rfl, rfl, h.1, h.2⟩
 | [], _, h => h.elim
 | _ :: _, [], h => h.elim
theorem RepC.nil_inv {w : World} {S : Nat → Prop} : ∀ {l : List T} {cs : List (List Value)}, RepC w S l [] cs → l = [] ∧ cs = []
 | [], [], _ => ⟨rfl, rfl⟩
 | [], _ :: _, h => h.elim
 | _ :: _, _, h => h.elim
theorem MSt.rep_expr {n0 p c tid : Nat} {sz : List Nat} {wz w0 : World} {s0 : RS} {cells chunks : List (List Value)} {s : RS} {w : World} (h : MSt n0 p c tid sz exprFlat wz w0 s0 cells chunks s w) (hc : chunks = cells) :
 chunks.flatten.length = SN.expr.size ∧ (∀ x ∈ chunks.flatten, x.oneCell' = true) ∧ ∃ l, BT l SN.expr.fields s0 = some s ∧ Rep w (fun b => w0.heap.size ≤ b) (.agg .expr l) (.st .expr) chunks.flatten := by
 subst hc
 obtain ⟨l, hr, hchk⟩ := h.rep
 have hone := hr.one
 replace hr : RepC w (fun b => w0.heap.size ≤ b) l exprFlat chunks := RepC.agree (fun b hb hl => ⟨hb.1, hl, rfl⟩) hr
 clear h
 obtain ⟨t0, l, c0, chunks, rfl, rfl, r0, hr⟩ := hr.cons_inv
 obtain ⟨t1, l, c1, chunks, rfl, rfl, r1, hr⟩ := hr.cons_inv
 obtain ⟨t2, l, c2, chunks, rfl, rfl, r2, hr⟩ := hr.cons_inv
 obtain ⟨t3, l, c3, chunks, rfl, rfl, r3, hr⟩ := hr.cons_inv
 obtain ⟨t4, l, c4, chunks, rfl, rfl, r4, hr⟩ := hr.cons_inv
 obtain ⟨t5, l, c5, chunks, rfl, rfl, r5, hr⟩ := hr.cons_inv
 obtain ⟨t6, l, c6, chunks, rfl, rfl, r6, hr⟩ := hr.cons_inv
 obtain ⟨t7, l, c7, chunks, rfl, rfl, r7, hr⟩ := hr.cons_inv
 obtain ⟨t8, l, c8, chunks, rfl, rfl, r8, hr⟩ := hr.cons_inv
 obtain ⟨t9, l, c9, chunks, rfl, rfl, r9, hr⟩ := hr.cons_inv
 obtain ⟨t10, l, c10, chunks, rfl, rfl, r10, hr⟩ := hr.cons_inv
 obtain ⟨rfl, rfl⟩ := hr.nil_inv
 have ratom : Rep w (fun b => w0.heap.size ≤ b) (.agg .atom [t4, t5]) (.st .atom) (c4 ++ c5) := by
  have ha : RepC w (fun b => w0.heap.size ≤ b) [t4, t5] SN.atom.fields [c4, c5] := ⟨r4, r5, trivial⟩
  have hl : [c4, c5].flatten.length = SN.atom.size := by rw [En, ha.size, Dz]
  have hF := EQ [] ha
  simp only [List.flatten_cons, List.flatten_nil, List.append_nil, List.nil_append, List.length_nil] at hl hF
  simp only [Rep]
  exact ⟨trivial, hl, hF⟩
 have hall : RepC w (fun b => w0.heap.size ≤ b) [t0, t1, t2, t3, .agg .atom [t4, t5], t6, t7, t8, t9, t10] SN.expr.fields [c0, c1, c2, c3, c4 ++ c5, c6, c7, c8, c9, c10] :=
  ⟨r0, r1, r2, r3, ratom, r6, r7, r8, r9, r10, trivial⟩
 have hfl : [c0, c1, c2, c3, c4, c5, c6, c7, c8, c9, c10].flatten = [c0, c1, c2, c3, c4 ++ c5, c6, c7, c8, c9, c10].flatten := by simp
 refine ⟨by rw [hfl, En, hall.size, Dz], hone, [t0, t1, t2, t3, .agg .atom [t4, t5], t6, t7, t8, t9, t10], ?_, ?_⟩
 · simp only [exprFlat, BT, Option.bind_eq_some_iff] at hchk
   obtain ⟨u0, k0, u1, k1, u2, k2, u3, k3, u4, k4, u5, k5, u6, k6, u7, k7, u8, k8, u9, k9, u10, k10, k11⟩ := hchk
   have hat : CK (.agg .atom [t4, t5]) (.st .atom) u3 = some u5 := Go.Sx.good_st rfl (by simp only [SN.fields, BT, k4, k5, Option.bind_some])
   simp only [SN.fields, BT, k0, k1, k2, k3, hat, k6, k7, k8, k9, k10, Option.bind_some]
   exact k11
 · rw [hfl]
   have hF := EQ [] hall
   simp only [Rep]
   exact ⟨trivial, by rw [En, hall.size, Dz], hF⟩
end Go.Sx
namespace Go.Sx
open Go.Proofs Go.Proofs.Tryz
theorem Qa {n0 p k : Nat} (hk : k ≤ 1000) (ih : ¬ 1000 < k + 1 → BG n0 p 120 (.st .expr) (k + 1)) : BG n0 p 120 (.st .expr) k := by
 intro s w hs hnk
 obtain ⟨Z, hz, hzl⟩ : ∃ Z : List Value, (∀ w, (zeroValue 66).run prog w = .ok (.agg Z.toArray) w) ∧ Z.length = Cy [1, 1, 1, 1, 1, 1, 1, 2, 5, 1, 1] := ⟨_, zeroValue66, rfl⟩
 refine Eu 45 func120 V V V ?_
 refine Af (Aa (AO (hz _) V (Ar [(0, ptr p), (2, ptr w.heap.size)] ⟨V, V, trivial⟩ ?_)))
 have M := MSt.new (tid := 66) (sz := [1, 1, 1, 1, 1, 1, 1, 2, 5, 1, 1]) hs hzl
 have hcs : w.heap.size < (w.alloc (.cells Z.toArray 66)).heap.size := by simp
 show W _ _ _ _ _ _ (w.alloc (.cells Z.toArray 66))
 generalize w.alloc (.cells Z.toArray 66) = w1 at M hcs ⊢
 refine Af (Aa (Ac V V (Aj call55 V V (QF M.rst (by omega)) ?_ ?_)))
 rotate_left
 · rintro ch w2 ⟨rfl, hm, f2, h2⟩ a ha
   exact Am (Ed ha ⟨rfl, Km V hm, _, h2, M.frame f2, Nat.le_succ _⟩)
 rintro _ w2 ⟨hno, bx, rfl, hbx, hbx2, f2, h2⟩
 have hno0 := hno
 rw [hnk] at hno0
 have hbp : bx ≠ p := fun e => by have := hs.lp; have := hs.ln; omega
 have hbc : bx ≠ w.heap.size := by omega
 replace M := M.deep hzl f2 h2
 refine Es V (Ar [(0, ptr p), (2, ptr w.heap.size)] ⟨V, V, trivial⟩ ?_)
 show W _ _ _ _ [Ko bx] _ _
 refine Af (Aa ?_)
 refine Ac V V ?_
 refine Aj call118 V V (Ez _ _ M.rst (M.nest.trans (congrArg (· + 1) hnk))) ?_ ?_
 rotate_left
 · intro ch w' hf a ha
   exact Am (Bb ha (M.fail_deep hbx hbp hbc (fun l h hb => Dy V h hb) hf))
 rintro _ w' g
 obtain ⟨c0, s', rfl, M, H0, _⟩ := M.call g
 refine Ac V V ?_
 refine Aj call56 V V (Iu _ _ M.rst (M.nest.trans (congrArg (· + 1) hnk))) ?_ ?_
 rotate_left
 · intro ch w' hf a ha
   exact Am (Bb ha (M.fail_deep hbx hbp hbc (fun l h hb => Dy V h hb) hf))
 rintro _ w' g
 obtain ⟨c1, s', rfl, M, H1, _⟩ := M.call g
 refine Ac V V ?_
 refine Aj call56 V V (Iu _ _ M.rst (M.nest.trans (congrArg (· + 1) hnk))) ?_ ?_
 rotate_left
 · intro ch w' hf a ha
   exact Am (Bb ha (M.fail_deep hbx hbp hbc (fun l h hb => Dy V h hb) hf))
 rintro _ w' g
 obtain ⟨c2, s', rfl, M, H2, _⟩ := M.call g
 refine Ac V V ?_
 refine Aj call118 V V (Ez _ _ M.rst (M.nest.trans (congrArg (· + 1) hnk))) ?_ ?_
 rotate_left
 · intro ch w' hf a ha
   exact Am (Bb ha (M.fail_deep hbx hbp hbc (fun l h hb => Dy V h hb) hf))
 rintro _ w' g
 obtain ⟨c3, s', rfl, M, H3, _⟩ := M.call g
 refine Ab V (HR _ _ _) V ?_
 obtain ⟨w', hst, M⟩ := M.store (off := 0) 0 H0 Cj rfl rfl
 refine An V V hst ?_
 refine Ab V (Ie _ _ _) V ?_
 obtain ⟨w', hst, M⟩ := M.store (off := 1) 1 H1 Cc rfl rfl
 refine An V V hst ?_
 refine Ab V (HV _ _ _) V ?_
 obtain ⟨w', hst, M⟩ := M.store (off := 2) 2 H2 Cc rfl rfl
 refine An V V hst ?_
 refine Ab V (HA _ _ _) V ?_
 obtain ⟨w', hst, M⟩ := M.store (off := 3) 3 H3 Cj rfl rfl
 refine An V V hst ?_
 refine Ar [(0, ptr p), (2, ptr w.heap.size)] ⟨V, V, trivial⟩ ?_
 refine Af (Aa ?_)
 refine Ac V V ?_
 refine Aj call118 V V (Ez _ _ M.rst (M.nest.trans (congrArg (· + 1) hnk))) ?_ ?_
 rotate_left
 · intro ch w' hf a ha
   exact Am (Bb ha (M.fail_deep hbx hbp hbc (fun l h hb => Dy V h hb) hf))
 rintro _ w' g
 obtain ⟨c4, s', rfl, M, H4, _⟩ := M.call g
 refine Ac V V ?_
 refine Aj call56 V V (Iu _ _ M.rst (M.nest.trans (congrArg (· + 1) hnk))) ?_ ?_
 rotate_left
 · intro ch w' hf a ha
   exact Am (Bb ha (M.fail_deep hbx hbp hbc (fun l h hb => Dy V h hb) hf))
 rintro _ w' g
 obtain ⟨c5, s', rfl, M, H5, _⟩ := M.call g
 refine Ab V (EA _ _ _) V ?_
 refine Ab V (J9 _ _ _) V ?_
 obtain ⟨w', hst, M⟩ := M.store (off := 4) 4 H4 Cj rfl rfl
 refine An V V hst ?_
 refine Ab V (EA _ _ _) V ?_
 refine Ab V (JE _ _ _) V ?_
 obtain ⟨w', hst, M⟩ := M.store (off := 5) 5 H5 Cc rfl rfl
 refine An V V hst ?_
 refine Ar [(0, ptr p), (2, ptr w.heap.size)] ⟨V, V, trivial⟩ ?_
 refine Af (Aa ?_)
 refine Ac V V ?_
 refine Aj call118 V V (Ez _ _ M.rst (M.nest.trans (congrArg (· + 1) hnk))) ?_ ?_
 rotate_left
 · intro ch w' hf a ha
   exact Am (Bb ha (M.fail_deep hbx hbp hbc (fun l h hb => Dy V h hb) hf))
 rintro _ w' g
 obtain ⟨c6, s', rfl, M, H6, _⟩ := M.call g
 refine Ac V V ?_
 refine Aj call189 V V (Qt _ _ M.rst (M.nest.trans (congrArg (· + 1) hnk))) ?_ ?_
 rotate_left
 · intro ch w' hf a ha
   exact Am (Bb ha (M.fail_deep hbx hbp hbc (fun l h hb => Dy V h hb) hf))
 rintro _ w' g
 obtain ⟨c7, s', rfl, M, H7, _⟩ := M.call g
 refine Ac V V ?_
 refine Aj call126 V V (Of _ _ M.rst (M.nest.trans (congrArg (· + 1) hnk))) ?_ ?_
 rotate_left
 · intro ch w' hf a ha
   exact Am (Bb ha (M.fail_deep hbx hbp hbc (fun l h hb => Dy V h hb) hf))
 rintro _ w' g
 obtain ⟨c8, s', rfl, M, H8, _⟩ := M.call g
 refine Ab V (HO _ _ _) V ?_
 obtain ⟨w', hst, M⟩ := M.store (off := 6) 6 H6 Cj rfl rfl
 refine An V V hst ?_
 refine Ab V (Hw _ _ _) V ?_
 obtain ⟨w', hst, M⟩ := M.store (off := 7) 7 H7 IL rfl rfl
 refine An V V hst ?_
 refine Ab V (HW _ _ _) V ?_
 obtain ⟨w', hst, M⟩ := M.store (off := 9) 8 H8 D9 rfl rfl
 refine An V V hst ?_
 refine Ar [(0, ptr p), (2, ptr w.heap.size)] ⟨V, V, trivial⟩ ?_
 refine Af (Aa ?_)
 refine Ac V V ?_
 refine Ac V V ?_
 refine AH V V V ?_
 refine Aj call121 V V ((OS Iu) _ _ M.rst (M.nest.trans (congrArg (· + 1) hnk))) ?_ ?_
 rotate_left
 · intro ch w' hf a ha
   exact Am (Bb ha (M.fail_deep hbx hbp hbc (fun l h hb => Dy V h hb) hf))
 rintro _ w' g
 obtain ⟨c9, s', rfl, M, H9, _⟩ := M.call g
 refine Ab V (EB _ _ _) V ?_
 obtain ⟨w', hst, M⟩ := M.store (off := 14) 9 H9 D_ rfl rfl
 refine An V V hst ?_
 refine Ar [(0, ptr p), (2, ptr w.heap.size)] ⟨V, V, trivial⟩ ?_
 refine Af (Aa ?_)
 refine Ac V V ?_
 refine Ac V V ?_
 refine AH V V V ?_
 refine Aj call119 V V ((OM (ih hno0)) _ _ M.rst (M.nest.trans (congrArg (· + 1) hnk))) ?_ ?_
 rotate_left
 · intro ch w' hf a ha
   exact Am (Bb ha (M.fail_deep hbx hbp hbc (fun l h hb => Dy V h hb) hf))
 rintro _ w' g
 obtain ⟨c10, s', rfl, M, H10, _⟩ := M.call g
 refine Ab V (E_ _ _ _) V ?_
 obtain ⟨w', hst, M⟩ := M.store (off := 15) 10 H10 Eh rfl rfl
 refine An V V hst ?_
 refine Ar [(0, ptr p), (2, ptr w.heap.size)] ⟨V, V, trivial⟩ ?_
 obtain ⟨hl, h1, l, hchk, hrep⟩ := M.rep_expr rfl
 have B := M.blk.all
 obtain ⟨w', hst, M2, hkeep⟩ := M.self (N := 16) BY hl h1
 have hrep2 := hkeep _ _ _ _ hrep
 exact Af (Aa (Ai V (Bg BY hl B) V (An V V hst (Ae (AA fun a ha => M2.good_deep hbx hbp hbc V hno BY hl hchk hrep2 V ha V)))))
theorem GS {n0 p : Nat} : ∀ k, k ≤ 1000 → BG n0 p 120 (.st .expr) k := by
 have key : ∀ j k, k ≤ 1000 → 1000 - k ≤ j → BG n0 p 120 (.st .expr) k := by
  intro j
  induction j with
  | zero => intro k hk hj; exact Qa hk (fun h => absurd h (by omega))
  | succ j ihj => intro k hk hj; exact Qa hk (fun h => ihj (k + 1) (by omega) (by omega))
 exact fun k hk => key _ k hk (Nat.le_refl _)
theorem Pk {n0 p k : Nat} (hk : k ≤ 1000) (ih : ¬ 1000 < k + 1 → BG n0 p 125 (.st .instr) (k + 1)) : BG n0 p 125 (.st .instr) k := by
 intro s w hs hnk
 obtain ⟨Z, hz, hzl⟩ : ∃ Z : List Value, (∀ w, (zeroValue 72).run prog w = .ok (.agg Z.toArray) w) ∧ Z.length = Cy [1, 1, 1, 1, 1, 1, 16, 16, 5, 1, 1, 1, 1, 1, 1, 1, 1] := ⟨_, zeroValue72, rfl⟩
 refine Eu 73 func125 V V V ?_
 refine Af (Aa (AO (hz _) V (Ar [(0, ptr p), (2, ptr w.heap.size)] ⟨V, V, trivial⟩ ?_)))
 have M := MSt.new (tid := 72) (sz := [1, 1, 1, 1, 1, 1, 16, 16, 5, 1, 1, 1, 1, 1, 1, 1, 1]) hs hzl
 have hcs : w.heap.size < (w.alloc (.cells Z.toArray 72)).heap.size := by simp
 show W _ _ _ _ _ _ (w.alloc (.cells Z.toArray 72))
 generalize w.alloc (.cells Z.toArray 72) = w1 at M hcs ⊢
 refine Af (Aa (Ac V V (Aj call55 V V (QF M.rst (by omega)) ?_ ?_)))
 rotate_left
 · rintro ch w2 ⟨rfl, hm, f2, h2⟩ a ha
   exact Am (Ed ha ⟨rfl, Km V hm, _, h2, M.frame f2, Nat.le_succ _⟩)
 rintro _ w2 ⟨hno, bx, rfl, hbx, hbx2, f2, h2⟩
 have hno0 := hno
 rw [hnk] at hno0
 have hbp : bx ≠ p := fun e => by have := hs.lp; have := hs.ln; omega
 have hbc : bx ≠ w.heap.size := by omega
 replace M := M.deep hzl f2 h2
 refine Es V (Ar [(0, ptr p), (2, ptr w.heap.size)] ⟨V, V, trivial⟩ ?_)
 show W _ _ _ _ [Ko bx] _ _
 refine Af (Aa ?_)
 refine Ac V V ?_
 refine Aj call118 V V (Ez _ _ M.rst (M.nest.trans (congrArg (· + 1) hnk))) ?_ ?_
 rotate_left
 · intro ch w' hf a ha
   exact Am (Bb ha (M.fail_deep hbx hbp hbc (fun l h hb => Ca (l := l) V V h hb) hf))
 rintro _ w' g
 obtain ⟨c0, s', rfl, M, H0, _⟩ := M.call g
 refine Ac V V ?_
 refine Aj call56 V V (Iu _ _ M.rst (M.nest.trans (congrArg (· + 1) hnk))) ?_ ?_
 rotate_left
 · intro ch w' hf a ha
   exact Am (Bb ha (M.fail_deep hbx hbp hbc (fun l h hb => Ca (l := l) V V h hb) hf))
 rintro _ w' g
 obtain ⟨c1, s', rfl, M, H1, _⟩ := M.call g
 refine Ac V V ?_
 refine Aj call56 V V (Iu _ _ M.rst (M.nest.trans (congrArg (· + 1) hnk))) ?_ ?_
 rotate_left
 · intro ch w' hf a ha
   exact Am (Bb ha (M.fail_deep hbx hbp hbc (fun l h hb => Ca (l := l) V V h hb) hf))
 rintro _ w' g
 obtain ⟨c2, s', rfl, M, H2, _⟩ := M.call g
 refine Ab V (Id _ _ _) V ?_
 obtain ⟨w', hst, M⟩ := M.store (off := 0) 0 H0 Cj rfl rfl
 refine An V V hst ?_
 refine Ab V (HX _ _ _) V ?_
 obtain ⟨w', hst, M⟩ := M.store (off := 1) 1 H1 Cc rfl rfl
 refine An V V hst ?_
 refine Ab V (Ib _ _ _) V ?_
 obtain ⟨w', hst, M⟩ := M.store (off := 2) 2 H2 Cc rfl rfl
 refine An V V hst ?_
 refine Ar [(0, ptr p), (2, ptr w.heap.size)] ⟨V, V, trivial⟩ ?_
 refine Af (Aa ?_)
 refine Ac V V ?_
 refine Ac V V ?_
 refine AH V V V ?_
 refine Aj call190 V V ((Q3 (PM (GS _ (by omega)))) _ _ M.rst (M.nest.trans (congrArg (· + 1) hnk))) ?_ ?_
 rotate_left
 · intro ch w' hf a ha
   exact Am (Bb ha (M.fail_deep hbx hbp hbc (fun l h hb => Ca (l := l) V V h hb) hf))
 rintro _ w' g
 obtain ⟨c3, s', rfl, M, H3, _⟩ := M.call g
 refine Ab V (HZ _ _ _) V ?_
 obtain ⟨w', hst, M⟩ := M.store (off := 3) 3 H3 J2 rfl rfl
 refine An V V hst ?_
 refine Ar [(0, ptr p), (2, ptr w.heap.size)] ⟨V, V, trivial⟩ ?_
 refine Af (Aa ?_)
 refine Ac V V ?_
 refine Ac V V ?_
 refine AH V V V ?_
 refine Aj call190 V V ((Q3 (PM (GS _ (by omega)))) _ _ M.rst (M.nest.trans (congrArg (· + 1) hnk))) ?_ ?_
 rotate_left
 · intro ch w' hf a ha
   exact Am (Bb ha (M.fail_deep hbx hbp hbc (fun l h hb => Ca (l := l) V V h hb) hf))
 rintro _ w' g
 obtain ⟨c4, s', rfl, M, H4, _⟩ := M.call g
 refine Ab V (HL _ _ _) V ?_
 obtain ⟨w', hst, M⟩ := M.store (off := 4) 4 H4 J2 rfl rfl
 refine An V V hst ?_
 refine Ar [(0, ptr p), (2, ptr w.heap.size)] ⟨V, V, trivial⟩ ?_
 refine Af (Aa ?_)
 refine Ac V V ?_
 refine Aj call117 V V (I0 _ _ M.rst (M.nest.trans (congrArg (· + 1) hnk))) ?_ ?_
 rotate_left
 · intro ch w' hf a ha
   exact Am (Bb ha (M.fail_deep hbx hbp hbc (fun l h hb => Ca (l := l) V V h hb) hf))
 rintro _ w' g
 obtain ⟨c5, s', rfl, M, H5, _⟩ := M.call g
 refine Ac V V ?_
 refine Aj call120 V V ((GS _ (by omega)) _ _ M.rst (M.nest.trans (congrArg (· + 1) hnk))) ?_ ?_
 rotate_left
 · intro ch w' hf a ha
   exact Am (Bb ha (M.fail_deep hbx hbp hbc (fun l h hb => Ca (l := l) V V h hb) hf))
 rintro _ w' g
 obtain ⟨c6, s', rfl, M, H6, _⟩ := M.call g
 refine Ac V V ?_
 refine Aj call120 V V ((GS _ (by omega)) _ _ M.rst (M.nest.trans (congrArg (· + 1) hnk))) ?_ ?_
 rotate_left
 · intro ch w' hf a ha
   exact Am (Bb ha (M.fail_deep hbx hbp hbc (fun l h hb => Ca (l := l) V V h hb) hf))
 rintro _ w' g
 obtain ⟨c7, s', rfl, M, H7, _⟩ := M.call g
 refine Ac V V ?_
 refine Aj call126 V V (Of _ _ M.rst (M.nest.trans (congrArg (· + 1) hnk))) ?_ ?_
 rotate_left
 · intro ch w' hf a ha
   exact Am (Bb ha (M.fail_deep hbx hbp hbc (fun l h hb => Ca (l := l) V V h hb) hf))
 rintro _ w' g
 obtain ⟨c8, s', rfl, M, H8, _⟩ := M.call g
 refine Ab V (HN _ _ _) V ?_
 obtain ⟨w', hst, M⟩ := M.store (off := 5) 5 H5 Dp rfl rfl
 refine An V V hst ?_
 refine Ab V (Ic _ _ _) V ?_
 obtain ⟨w', hst, M⟩ := M.store (off := 6) 6 H6 BY rfl rfl
 refine An V V hst ?_
 refine Ab V (HB _ _ _) V ?_
 obtain ⟨w', hst, M⟩ := M.store (off := 22) 7 H7 BY rfl rfl
 refine An V V hst ?_
 refine Ab V (HM _ _ _) V ?_
 obtain ⟨w', hst, M⟩ := M.store (off := 38) 8 H8 D9 rfl rfl
 refine An V V hst ?_
 refine Ar [(0, ptr p), (2, ptr w.heap.size)] ⟨V, V, trivial⟩ ?_
 refine Af (Aa ?_)
 refine Ac V V ?_
 refine Ac V V ?_
 refine AH V V V ?_
 refine Aj call192 V V ((Qg (Q2 (GS _ (by omega)))) _ _ M.rst (M.nest.trans (congrArg (· + 1) hnk))) ?_ ?_
 rotate_left
 · intro ch w' hf a ha
   exact Am (Bb ha (M.fail_deep hbx hbp hbc (fun l h hb => Ca (l := l) V V h hb) hf))
 rintro _ w' g
 obtain ⟨c9, s', rfl, M, H9, _⟩ := M.call g
 refine Ab V (Ht _ _ _) V ?_
 obtain ⟨w', hst, M⟩ := M.store (off := 43) 9 H9 J1 rfl rfl
 refine An V V hst ?_
 refine Ar [(0, ptr p), (2, ptr w.heap.size)] ⟨V, V, trivial⟩ ?_
 refine Af (Aa ?_)
 refine Ac V V ?_
 refine Ac V V ?_
 refine AH V V V ?_
 refine Aj call122 V V ((PF (Pv (GS _ (by omega)) (ih hno0))) _ _ M.rst (M.nest.trans (congrArg (· + 1) hnk))) ?_ ?_
 rotate_left
 · intro ch w' hf a ha
   exact Am (Bb ha (M.fail_deep hbx hbp hbc (fun l h hb => Ca (l := l) V V h hb) hf))
 rintro _ w' g
 obtain ⟨c10, s', rfl, M, H10, _⟩ := M.call g
 refine Ab V (Gb _ _ _) V ?_
 obtain ⟨w', hst, M⟩ := M.store (off := 44) 10 H10 GT rfl rfl
 refine An V V hst ?_
 refine Ar [(0, ptr p), (2, ptr w.heap.size)] ⟨V, V, trivial⟩ ?_
 refine Af (Aa ?_)
 refine Ac V V ?_
 refine Ac V V ?_
 refine AH V V V ?_
 refine Aj call194 V V ((Q7 (Rk (GS _ (by omega)))) _ _ M.rst (M.nest.trans (congrArg (· + 1) hnk))) ?_ ?_
 rotate_left
 · intro ch w' hf a ha
   exact Am (Bb ha (M.fail_deep hbx hbp hbc (fun l h hb => Ca (l := l) V V h hb) hf))
 rintro _ w' g
 obtain ⟨c11, s', rfl, M, H11, _⟩ := M.call g
 refine Ab V (DB _ _ _) V ?_
 obtain ⟨w', hst, M⟩ := M.store (off := 45) 11 H11 Ky rfl rfl
 refine An V V hst ?_
 refine Ar [(0, ptr p), (2, ptr w.heap.size)] ⟨V, V, trivial⟩ ?_
 refine Af (Aa ?_)
 refine Ac V V ?_
 refine Ac V V ?_
 refine AH V V V ?_
 refine Aj call196 V V ((Ri (RC (ih hno0))) _ _ M.rst (M.nest.trans (congrArg (· + 1) hnk))) ?_ ?_
 rotate_left
 · intro ch w' hf a ha
   exact Am (Bb ha (M.fail_deep hbx hbp hbc (fun l h hb => Ca (l := l) V V h hb) hf))
 rintro _ w' g
 obtain ⟨c12, s', rfl, M, H12, _⟩ := M.call g
 refine Ab V (Dn _ _ _) V ?_
 obtain ⟨w', hst, M⟩ := M.store (off := 46) 12 H12 J3 rfl rfl
 refine An V V hst ?_
 refine Ar [(0, ptr p), (2, ptr w.heap.size)] ⟨V, V, trivial⟩ ?_
 refine Af (Aa ?_)
 refine Ac V V ?_
 refine Ac V V ?_
 refine AH V V V ?_
 refine Aj call124 V V ((ND (ih hno0)) _ _ M.rst (M.nest.trans (congrArg (· + 1) hnk))) ?_ ?_
 rotate_left
 · intro ch w' hf a ha
   exact Am (Bb ha (M.fail_deep hbx hbp hbc (fun l h hb => Ca (l := l) V V h hb) hf))
 rintro _ w' g
 obtain ⟨QA, s', rfl, M, H13, _⟩ := M.call g
 refine Ab V (FE _ _ _) V ?_
 obtain ⟨w', hst, M⟩ := M.store (off := 47) 13 H13 Dt rfl rfl
 refine An V V hst ?_
 refine Ar [(0, ptr p), (2, ptr w.heap.size)] ⟨V, V, trivial⟩ ?_
 refine Af (Aa ?_)
 refine Ac V V ?_
 refine Ac V V ?_
 refine AH V V V ?_
 refine Aj call124 V V ((ND (ih hno0)) _ _ M.rst (M.nest.trans (congrArg (· + 1) hnk))) ?_ ?_
 rotate_left
 · intro ch w' hf a ha
   exact Am (Bb ha (M.fail_deep hbx hbp hbc (fun l h hb => Ca (l := l) V V h hb) hf))
 rintro _ w' g
 obtain ⟨PL, s', rfl, M, H14, _⟩ := M.call g
 refine Ab V (FY _ _ _) V ?_
 obtain ⟨w', hst, M⟩ := M.store (off := 48) 14 H14 Dt rfl rfl
 refine An V V hst ?_
 refine Ar [(0, ptr p), (2, ptr w.heap.size)] ⟨V, V, trivial⟩ ?_
 refine Af (Aa ?_)
 refine Ac V V ?_
 refine Aj call118 V V (Ez _ _ M.rst (M.nest.trans (congrArg (· + 1) hnk))) ?_ ?_
 rotate_left
 · intro ch w' hf a ha
   exact Am (Bb ha (M.fail_deep hbx hbp hbc (fun l h hb => Ca (l := l) V V h hb) hf))
 rintro _ w' g
 obtain ⟨RD, s', rfl, M, H15, _⟩ := M.call g
 refine Ac V V ?_
 refine Aj call118 V V (Ez _ _ M.rst (M.nest.trans (congrArg (· + 1) hnk))) ?_ ?_
 rotate_left
 · intro ch w' hf a ha
   exact Am (Bb ha (M.fail_deep hbx hbp hbc (fun l h hb => Ca (l := l) V V h hb) hf))
 rintro _ w' g
 obtain ⟨RJ, s', rfl, M, H16, _⟩ := M.call g
 refine Ab V (Gi _ _ _) V ?_
 obtain ⟨w', hst, M⟩ := M.store (off := 49) 15 H15 Cj rfl rfl
 refine An V V hst ?_
 refine Ab V (FM _ _ _) V ?_
 obtain ⟨w', hst, M⟩ := M.store (off := 50) 16 H16 Cj rfl rfl
 refine An V V hst ?_
 refine Ar [(0, ptr p), (2, ptr w.heap.size)] ⟨V, V, trivial⟩ ?_
 obtain ⟨hl, h1, l, hchk, hrep⟩ := M.rep_st (sn := .instr) rfl
 have B := M.blk.all
 obtain ⟨w', hst, M2, hkeep⟩ := M.self (N := 51) Hh hl h1
 have hrep2 := hkeep _ _ _ _ hrep
 exact Af (Aa (Ai V (Bg Hh hl B) V (An V V hst (Ae (AA fun a ha => M2.good_deep hbx hbp hbc V hno Hh hl hchk hrep2 V ha V)))))
theorem MB {n0 p : Nat} : ∀ k, k ≤ 1000 → BG n0 p 125 (.st .instr) k := by
 have key : ∀ j k, k ≤ 1000 → 1000 - k ≤ j → BG n0 p 125 (.st .instr) k := by
  intro j
  induction j with
  | zero => intro k hk hj; exact Pk hk (fun h => absurd h (by omega))
  | succ j ihj => intro k hk hj; exact Pk hk (fun h => ihj (k + 1) (by omega) (by omega))
 exact fun k hk => key _ k hk (Nat.le_refl _)
end Go.Sx
namespace Go.Sx
open Go.Proofs Go.Proofs.Tryz
theorem Li {e : Ty} {s : RS} (h : L1 .bool s) : L1 (.ptr e) s := by
 have h0 : s.eat 0 = none := by have := h (.bool false); simp only [CK] at this; exact this
 have h1 : s.eat 1 = none := by have := h (.bool true); simp only [CK] at this; exact this
 intro t
 cases t <;> simp only [CK]
 · exact h0
 · rw [h1]; rfl
theorem OD {e : Ty} {s s' : RS} (he : s.eat 1 = some s') (h : L1 e s') : L1 (.ptr e) s := by
 intro t
 cases t <;> simp only [CK]
 · cases h0 : s.eat 0 with
   | none => rfl
   | some u => have := (CD h0 he).1; omega
 · rw [he]; exact h _
theorem MSt.read {n0 p c tid : Nat} {sz : List Nat} {fs : List Ty} {wz w0 : World} {s0 : RS} {cells chunks : List (List Value)} {s : RS} {w : World} (h : MSt n0 p c tid sz fs wz w0 s0 cells chunks s w) {f : Ty} {t : T} {s' : RS} {cs : List Value} {w' : World}
 (hc : CK t f s = some s') (hrep : Rep w' (fun b => w.heap.size ≤ b) t f cs) (hst : RSt n0 p s' w') (f' : Fr (only p) w (only p) w') (hn : s'.nest = s.nest) : MSt n0 p c tid sz (fs ++ [f]) wz w0 s0 (cells ++ [cs]) chunks s' w' := by
 obtain ⟨l, hr, hchk⟩ := h.rep
 have hne := h.ne
 have hcl := h.blk.lt
 have hbase := h.base
 have hlp := h.rst.lp
 have hw0 := h.fr.size
 refine ⟨hst, h.fr.trans (f'.drop (fun b hb => .inl hb)), h.c0, (f'.blk c hcl hne).trans h.blk, h.len, ⟨l ++ [t], ?_, (Jj l fs t f s0 s hchk).trans hc⟩, hbase, hn.trans h.nest, fun b h1 h2 h3 => (f'.blk b (Nat.lt_of_lt_of_le h1 h.alsoz) h2).trans (h.also b h1 h2 h3), Nat.le_trans h.alsoz f'.size⟩
 refine RepC.snoc (Rep.agree (fun b hb hl => ⟨⟨by omega, by omega⟩, hl, rfl⟩) _ _ _ hrep) (RepC.agree (fun b hb hl => ⟨hb, Nat.lt_of_lt_of_le hl f'.size, f'.blk b hl (fun e => by have := hb.1; omega)⟩) hr)
theorem Sq {n0 p k : Nat} (hS : BG n0 p 32 (.st .sheet) k) : BG n0 p 58 (.st .use) k := by
 intro s w hs hnk
 obtain ⟨Z, hz, hzl, hz1⟩ : ∃ Z : List Value, (∀ w, (zeroValue 48).run prog w = .ok (.agg Z.toArray) w) ∧ Z.length = Cy [1, 1, 1, 1] ∧ ∀ c0, ((CN [1, 1, 1, 1] Z).set 0 c0).set 1 [.pointer none] = (CN [1, 1, 1, 1] Z).set 0 c0 :=
  ⟨_, zeroValue48, rfl, fun c0 => rfl⟩
 obtain ⟨Y, hy, hyl⟩ : ∃ Y : List Value, (∀ w, (zeroValue 36).run prog w = .ok (.agg Y.toArray) w) ∧ Y.length = 10 := ⟨_, zeroValue36, rfl⟩
 refine AB 19 func58 V V V ?_
 refine Af (Aa (AO (hz _) V (Ar [(0, ptr p), (2, ptr w.heap.size)] ⟨V, V, trivial⟩ ?_)))
 have M := MSt.new (tid := 48) (sz := [1, 1, 1, 1]) hs hzl
 show W _ _ _ _ _ _ (w.alloc (.cells Z.toArray 48))
 generalize w.alloc (.cells Z.toArray 48) = w1 at M ⊢
 refine Af (Aa ?_)
 refine Ac V V ?_
 refine Aj call56 V V (Iu _ _ M.rst (M.nest.trans hnk)) ?_ ?_
 rotate_left
 · intro ch w' hf a ha
   exact Am (Av ha (M.fail_st V V hf))
 rintro _ w' g
 obtain ⟨c0, s', rfl, M, H0, _⟩ := M.call g
 refine Ab V (G0 _ _ _) V ?_
 obtain ⟨w', hst, M⟩ := M.store (off := 0) 0 H0 Cc rfl rfl
 refine An V V hst ?_
 refine Ar [(0, ptr p), (2, ptr w.heap.size)] ⟨V, V, trivial⟩ ?_
 refine B9 (ι := List Value × RS) (fun _ => [(0, ptr p), (2, ptr w.heap.size)]) (fun i w' => MSt n0 p w.heap.size 48 [1, 1, 1, 1] [.str, .ptr (.st .sheet)] w1 w s [c0, i.1] (((CN [1, 1, 1, 1] Z).set 0 c0).set 1 i.1) i.2 w') ?_ ?_
 · refine Af (Aa ?_)
   refine Ac V V ?_
   refine Aj call117 V V (I0 (k := k) _ _ M.rst (M.nest.trans hnk)) ?_ ?_
   rotate_left
   · rintro ch w2 ⟨hch, hb, s2, h2, f2, hn2⟩ a ha
     exact Am (Am (Av ha (M.fail_st (sn := .use) V V ⟨hch, Li hb, s2, h2, f2, hn2⟩)))
   rintro _ w2 ⟨t, s2, cs, hc, rfl, hrep, h2, f2, hn2⟩
   obtain ⟨b, rfl, rfl⟩ := hrep.bool_inv
   simp only [CK] at hc
   have hns : s2.nest = k := hn2.trans (M.nest.trans hnk)
   refine Ae ?_
   show W _ _ _ _ _ ((_, .bool b) :: _) _
   cases b with
   | false =>
    refine A9 V (A_ fun a ha => Ad ⟨([.pointer none], s2), ha.weak ⟨V, V, trivial⟩, ?_⟩)
    simp only [hz1]
    exact M.read (f := .ptr (.st .sheet)) (t := .nil) (by simp only [CK]; exact hc) (by simp only [Rep]) h2 f2 hn2
   | true =>
    refine Ax V (Af (Aa (Ac V V (Aj call32 V V (hS _ _ h2 hns) ?_ ?_))))
    rotate_left
    · rintro ch w3 ⟨hch, hb, s3, h3, f3, hn3⟩ a ha
      exact Am (Am (Av ha (M.fail_st (sn := .use) V V ⟨hch, OD hc hb, s3, h3, f2.trans f3, by omega⟩)))
    rintro _ w3 ⟨t, s3, cs, hc3, rfl, hrep3, h3, f3, hn3⟩
    refine AO (hy _) V ?_
    have a4 : Blk (w3.alloc (.cells Y.toArray 36)) w3.heap.size Y 36 := AN
    have f4 : Fr (fun _ => False) w3 (fun _ => False) (w3.alloc (.cells Y.toArray 36)) := Fr.alloc _ _ _
    have hs4 : (w3.alloc (.cells Y.toArray 36)).heap.size = w3.heap.size + 1 := by simp
    show WL _ _ _ _ _ _ _ (w3.alloc (.cells Y.toArray 36))
    generalize w3.alloc (.cells Y.toArray 36) = w4 at a4 f4 hs4 ⊢
    obtain ⟨hcl, hc1⟩ := Rep.one _ _ _ hrep3
    have hcl' : cs.length = 10 := hcl
    have hst := BR (P := prog) (v := .agg cs.toArray) EE rfl hcl' hc1 a4 (o := 0) (by omega)
    have hsp : Ch Y 0 cs = cs := by simp [Ch, hyl, hcl']
    rw [hsp] at hst
    have hpn : p < n0 := h3.lp
    have hnl := M.rst.ln
    have hw2 := f2.size
    have hw3 := f3.size
    have f5 : Fr (only p) w3 (only p) (w4.setRow w3.heap.size cs.toArray) := ⟨f4.os, f4.tape, f4.output, by simp only [BB]; omega, fun b hb _ => (setRow_other _ _ _ _ (by omega)).trans (f4.blk b hb (fun h => h)), fun b hb => .inl hb⟩
    have h5 : RSt n0 p s3 (w4.setRow w3.heap.size cs.toArray) := (h3.keep f4 (fun _ h => h.elim)).keep (Fr.setRow (O := only w3.heap.size) _ rfl) (fun k hk => by have : k = w3.heap.size := hk; omega)
    have b5 : Blk (w4.setRow w3.heap.size cs.toArray) w3.heap.size cs 36 := a4.setRow _
    have hs5 : (w4.setRow w3.heap.size cs.toArray).heap.size = w4.heap.size := by simp
    refine An V V hst (Ae ?_)
    generalize w4.setRow w3.heap.size cs.toArray = w5 at f5 h5 b5 hs5 ⊢
    have hrep5 : Rep w5 (fun b => w'.heap.size ≤ b) (.ptr t) (.ptr (.st .sheet)) [.pointer (some ⟨w3.heap.size, 0, none⟩)] := by
     simp only [Rep]
     refine ⟨w3.heap.size, 0, cs, rfl, by omega, by omega, b5.all, hcl, Rep.agree (fun b hb hl => ⟨by omega, by omega, f5.blk b hl (fun e => by have : b = p := e; omega)⟩) _ _ _ hrep3⟩
    have hck : CK (.ptr t) (.ptr (.st .sheet)) s' = some s3 := by
     have hc1' : s'.eat 1 = some s2 := hc
     simp only [CK, hc1', Option.bind_some]; exact hc3
    have M5 := M.read (f := .ptr (.st .sheet)) (t := .ptr t) (s' := s3) hck hrep5 h5 (f2.trans (f3.trans f5)) (hn3.trans hn2)
    obtain ⟨w6, hst6, M6⟩ := M5.store (off := 1) 1 ⟨_, _, _, hrep5⟩ E9 rfl rfl
    refine Aa (Ab V (C3 _ _ _) V (An V V hst6 (A2 fun a ha => Ad ⟨([.pointer (some ⟨w3.heap.size, 0, none⟩)], s3), ha.weak ⟨V, V, trivial⟩, M6⟩)))
 · rintro ⟨c1, s2⟩ w2 M
   simp only at M
   refine Af (Aa ?_)
   refine Ac V V ?_
   refine Aj call118 V V (Ez _ _ M.rst (M.nest.trans hnk)) ?_ ?_
   rotate_left
   · intro ch w' hf a ha
     exact Am (Av ha (M.fail_st (sn := .use) V V hf))
   rintro _ w' g
   obtain ⟨c2, s', rfl, M, H2, _⟩ := M.call g
   refine Ac V V ?_
   refine Aj call118 V V (Ez _ _ M.rst (M.nest.trans hnk)) ?_ ?_
   rotate_left
   · intro ch w' hf a ha
     exact Am (Av ha (M.fail_st (sn := .use) V V hf))
   rintro _ w' g
   obtain ⟨c3, s', rfl, M, H3, _⟩ := M.call g
   refine Ab V (EX _ _ _) V ?_
   obtain ⟨w', hst, M⟩ := M.store (off := 2) 2 H2 Cj rfl rfl
   refine An V V hst ?_
   refine Ab V (Fc _ _ _) V ?_
   obtain ⟨w', hst, M⟩ := M.store (off := 3) 3 H3 Cj rfl rfl
   refine An V V hst ?_
   refine Ar [(0, ptr p), (2, ptr w.heap.size)] ⟨V, V, trivial⟩ ?_
   obtain ⟨hl, h1, l, hchk, hrep⟩ := M.rep_st (sn := .use) rfl
   have B := M.blk.all
   obtain ⟨w', hst, M, _⟩ := M.self (N := 4) E5 hl h1
   exact Af (Aa (Ai V (Bg E5 hl B) V (An V V hst (Ae (AA fun a ha => BE V ha V (Bg E5 hl M.blk.all) (M.good_st V V))))))
end Go.Sx
namespace Go.Sx
open Go.Proofs Go.Proofs.Tryz
theorem RH {n0 p k : Nat} (hk : k ≤ 1000) (ih : ¬ 1000 < k + 1 → BG n0 p 32 (.st .sheet) (k + 1)) : BG n0 p 32 (.st .sheet) k := by
 intro s w hs hnk
 obtain ⟨Z, hz, hzl⟩ : ∃ Z : List Value, (∀ w, (zeroValue 36).run prog w = .ok (.agg Z.toArray) w) ∧ Z.length = Cy [1, 1, 1, 1, 1, 1, 1, 1, 1, 1] := ⟨_, zeroValue36, rfl⟩
 refine Eu 54 func32 V V V ?_
 refine Af (Aa (AO (hz _) V (Ar [(0, ptr p), (2, ptr w.heap.size)] ⟨V, V, trivial⟩ ?_)))
 have M := MSt.new (tid := 36) (sz := [1, 1, 1, 1, 1, 1, 1, 1, 1, 1]) hs hzl
 have hcs : w.heap.size < (w.alloc (.cells Z.toArray 36)).heap.size := by simp
 show W _ _ _ _ _ _ (w.alloc (.cells Z.toArray 36))
 generalize w.alloc (.cells Z.toArray 36) = w1 at M hcs ⊢
 refine Af (Aa (Ac V V (Aj call55 V V (QF M.rst (by omega)) ?_ ?_)))
 rotate_left
 · rintro ch w2 ⟨rfl, hm, f2, h2⟩ a ha
   exact Am (Ed ha ⟨rfl, Km V hm, _, h2, M.frame f2, Nat.le_succ _⟩)
 rintro _ w2 ⟨hno, bx, rfl, hbx, hbx2, f2, h2⟩
 have hno0 := hno
 rw [hnk] at hno0
 have hbp : bx ≠ p := fun e => by have := hs.lp; have := hs.ln; omega
 have hbc : bx ≠ w.heap.size := by omega
 replace M := M.deep hzl f2 h2
 refine Es V (Ar [(0, ptr p), (2, ptr w.heap.size)] ⟨V, V, trivial⟩ ?_)
 show W _ _ _ _ [Ko bx] _ _
 refine Af (Aa ?_)
 refine Ac V V ?_
 refine Aj call56 V V (Iu _ _ M.rst (M.nest.trans (congrArg (· + 1) hnk))) ?_ ?_
 rotate_left
 · intro ch w' hf a ha
   exact Am (Bb ha (M.fail_deep hbx hbp hbc (fun l h hb => Ca (l := l) V V h hb) hf))
 rintro _ w' g
 obtain ⟨c0, s', rfl, M, H0, _⟩ := M.call g
 refine Ab V (G_ _ _ _) V ?_
 obtain ⟨w', hst, M⟩ := M.store (off := 0) 0 H0 Cc rfl rfl
 refine An V V hst ?_
 refine Ar [(0, ptr p), (2, ptr w.heap.size)] ⟨V, V, trivial⟩ ?_
 refine Af (Aa ?_)
 refine Ac V V ?_
 refine Ac V V ?_
 refine AH V V V ?_
 refine Aj call57 V V ((Mj (Sq (ih hno0))) _ _ M.rst (M.nest.trans (congrArg (· + 1) hnk))) ?_ ?_
 rotate_left
 · intro ch w' hf a ha
   exact Am (Bb ha (M.fail_deep hbx hbp hbc (fun l h hb => Ca (l := l) V V h hb) hf))
 rintro _ w' g
 obtain ⟨c1, s', rfl, M, H1, _⟩ := M.call g
 refine Ab V (CQ _ _ _) V ?_
 obtain ⟨w', hst, M⟩ := M.store (off := 1) 1 H1 Fl rfl rfl
 refine An V V hst ?_
 refine Ar [(0, ptr p), (2, ptr w.heap.size)] ⟨V, V, trivial⟩ ?_
 refine Af (Aa ?_)
 refine Ac V V ?_
 refine Ac V V ?_
 refine AH V V V ?_
 refine Aj call59 V V ((S2 (Sk (GS _ (by omega)) (MB _ (by omega)))) _ _ M.rst (M.nest.trans (congrArg (· + 1) hnk))) ?_ ?_
 rotate_left
 · intro ch w' hf a ha
   exact Am (Bb ha (M.fail_deep hbx hbp hbc (fun l h hb => Ca (l := l) V V h hb) hf))
 rintro _ w' g
 obtain ⟨c2, s', rfl, M, H2, _⟩ := M.call g
 refine Ab V (G6 _ _ _) V ?_
 obtain ⟨w', hst, M⟩ := M.store (off := 2) 2 H2 KY rfl rfl
 refine An V V hst ?_
 refine Ar [(0, ptr p), (2, ptr w.heap.size)] ⟨V, V, trivial⟩ ?_
 refine Af (Aa ?_)
 refine Ac V V ?_
 refine Ac V V ?_
 refine AH V V V ?_
 refine Aj call61 V V ((Mg (RW (GS _ (by omega)) (MB _ (by omega)))) _ _ M.rst (M.nest.trans (congrArg (· + 1) hnk))) ?_ ?_
 rotate_left
 · intro ch w' hf a ha
   exact Am (Bb ha (M.fail_deep hbx hbp hbc (fun l h hb => Ca (l := l) V V h hb) hf))
 rintro _ w' g
 obtain ⟨c3, s', rfl, M, H3, _⟩ := M.call g
 refine Ab V (GF _ _ _) V ?_
 obtain ⟨w', hst, M⟩ := M.store (off := 3) 3 H3 Lg rfl rfl
 refine An V V hst ?_
 refine Ar [(0, ptr p), (2, ptr w.heap.size)] ⟨V, V, trivial⟩ ?_
 refine Af (Aa ?_)
 refine Ac V V ?_
 refine Ac V V ?_
 refine AH V V V ?_
 refine Aj call63 V V ((Sm (RY (GS _ (by omega)) (MB _ (by omega)))) _ _ M.rst (M.nest.trans (congrArg (· + 1) hnk))) ?_ ?_
 rotate_left
 · intro ch w' hf a ha
   exact Am (Bb ha (M.fail_deep hbx hbp hbc (fun l h hb => Ca (l := l) V V h hb) hf))
 rintro _ w' g
 obtain ⟨c4, s', rfl, M, H4, _⟩ := M.call g
 refine Ab V (GD _ _ _) V ?_
 obtain ⟨w', hst, M⟩ := M.store (off := 4) 4 H4 KX rfl rfl
 refine An V V hst ?_
 refine Ar [(0, ptr p), (2, ptr w.heap.size)] ⟨V, V, trivial⟩ ?_
 refine Af (Aa ?_)
 refine Ac V V ?_
 refine Ac V V ?_
 refine AH V V V ?_
 refine Aj call65 V V ((Mk (Sn (GS _ (by omega)))) _ _ M.rst (M.nest.trans (congrArg (· + 1) hnk))) ?_ ?_
 rotate_left
 · intro ch w' hf a ha
   exact Am (Bb ha (M.fail_deep hbx hbp hbc (fun l h hb => Ca (l := l) V V h hb) hf))
 rintro _ w' g
 obtain ⟨c5, s', rfl, M, H5, _⟩ := M.call g
 refine Ab V (DY _ _ _) V ?_
 obtain ⟨w', hst, M⟩ := M.store (off := 5) 5 H5 Kn rfl rfl
 refine An V V hst ?_
 refine Ar [(0, ptr p), (2, ptr w.heap.size)] ⟨V, V, trivial⟩ ?_
 refine Af (Aa ?_)
 refine Ac V V ?_
 refine Ac V V ?_
 refine AH V V V ?_
 refine Aj call67 V V ((Sv (Sa (GS _ (by omega)))) _ _ M.rst (M.nest.trans (congrArg (· + 1) hnk))) ?_ ?_
 rotate_left
 · intro ch w' hf a ha
   exact Am (Bb ha (M.fail_deep hbx hbp hbc (fun l h hb => Ca (l := l) V V h hb) hf))
 rintro _ w' g
 obtain ⟨c6, s', rfl, M, H6, _⟩ := M.call g
 refine Ab V (Dm _ _ _) V ?_
 obtain ⟨w', hst, M⟩ := M.store (off := 6) 6 H6 GW rfl rfl
 refine An V V hst ?_
 refine Ar [(0, ptr p), (2, ptr w.heap.size)] ⟨V, V, trivial⟩ ?_
 refine Af (Aa ?_)
 refine Ac V V ?_
 refine Ac V V ?_
 refine AH V V V ?_
 refine Aj call69 V V ((Me RU) _ _ M.rst (M.nest.trans (congrArg (· + 1) hnk))) ?_ ?_
 rotate_left
 · intro ch w' hf a ha
   exact Am (Bb ha (M.fail_deep hbx hbp hbc (fun l h hb => Ca (l := l) V V h hb) hf))
 rintro _ w' g
 obtain ⟨c7, s', rfl, M, H7, _⟩ := M.call g
 refine Ab V (CO _ _ _) V ?_
 obtain ⟨w', hst, M⟩ := M.store (off := 7) 7 H7 GV rfl rfl
 refine An V V hst ?_
 refine Ar [(0, ptr p), (2, ptr w.heap.size)] ⟨V, V, trivial⟩ ?_
 refine Af (Aa ?_)
 refine Ac V V ?_
 refine Ac V V ?_
 refine AH V V V ?_
 refine Aj call71 V V ((Sd Ss) _ _ M.rst (M.nest.trans (congrArg (· + 1) hnk))) ?_ ?_
 rotate_left
 · intro ch w' hf a ha
   exact Am (Bb ha (M.fail_deep hbx hbp hbc (fun l h hb => Ca (l := l) V V h hb) hf))
 rintro _ w' g
 obtain ⟨c8, s', rfl, M, H8, _⟩ := M.call g
 refine Ab V (D8 _ _ _) V ?_
 obtain ⟨w', hst, M⟩ := M.store (off := 8) 8 H8 Jm rfl rfl
 refine An V V hst ?_
 refine Ar [(0, ptr p), (2, ptr w.heap.size)] ⟨V, V, trivial⟩ ?_
 refine Af (Aa ?_)
 refine Ac V V ?_
 refine Ac V V ?_
 refine AH V V V ?_
 refine Aj call73 V V ((Ml Sj) _ _ M.rst (M.nest.trans (congrArg (· + 1) hnk))) ?_ ?_
 rotate_left
 · intro ch w' hf a ha
   exact Am (Bb ha (M.fail_deep hbx hbp hbc (fun l h hb => Ca (l := l) V V h hb) hf))
 rintro _ w' g
 obtain ⟨c9, s', rfl, M, H9, _⟩ := M.call g
 refine Ab V (D4 _ _ _) V ?_
 obtain ⟨w', hst, M⟩ := M.store (off := 9) 9 H9 Je rfl rfl
 refine An V V hst ?_
 refine Ar [(0, ptr p), (2, ptr w.heap.size)] ⟨V, V, trivial⟩ ?_
 obtain ⟨hl, h1, l, hchk, hrep⟩ := M.rep_st (sn := .sheet) rfl
 have B := M.blk.all
 obtain ⟨w', hst, M2, hkeep⟩ := M.self (N := 10) EE hl h1
 have hrep2 := hkeep _ _ _ _ hrep
 exact Af (Aa (Ai V (Bg EE hl B) V (An V V hst (Ae (AA fun a ha => M2.good_deep hbx hbp hbc V hno EE hl hchk hrep2 V ha V)))))
theorem Pl {n0 p : Nat} : ∀ k, k ≤ 1000 → BG n0 p 32 (.st .sheet) k := by
 have key : ∀ j k, k ≤ 1000 → 1000 - k ≤ j → BG n0 p 32 (.st .sheet) k := by
  intro j
  induction j with
  | zero => intro k hk hj; exact RH hk (fun h => absurd h (by omega))
  | succ j ihj => intro k hk hj; exact RH hk (fun h => ihj (k + 1) (by omega) (by omega))
 exact fun k hk => key _ k hk (Nat.le_refl _)
end Go.Sx
