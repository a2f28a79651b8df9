import Derived.Test.YtdldhfocpandoaaGreatStC
import Derived.Test.YtdldhfocpandoaaGreatStA
namespace Go.Sx
open Go.Proofs
set_option maxHeartbeats 2000000 in
theorem c155 {w0 : World} {S : Nat → Prop} {p most long : Nat} (t : T) : WEnc w0 S p most long 155 (.st .template) t := by
 intro cs hr s O w hw hu
 obtain ⟨l, rfl, hlen, hF⟩ := hr.st_inv
 obtain ⟨t0, l, rfl, r0, hF⟩ := hF.cons_inv
 obtain ⟨t1, l, rfl, r1, hF⟩ := hF.cons_inv
 obtain ⟨t2, l, rfl, r2, hF⟩ := hF.cons_inv
 obtain ⟨t3, l, rfl, r3, hF⟩ := hF.cons_inv
 obtain ⟨t4, l, rfl, r4, hF⟩ := hF.cons_inv
 obtain ⟨t5, l, rfl, r5, hF⟩ := hF.cons_inv
 obtain ⟨t6, l, rfl, r6, hF⟩ := hF.cons_inv
 obtain ⟨t7, l, rfl, r7, hF⟩ := hF.cons_inv
 obtain ⟨t8, l, rfl, r8, hF⟩ := hF.cons_inv
 obtain ⟨t9, l, rfl, r9, hF⟩ := hF.cons_inv
 obtain ⟨t10, l, rfl, r10, hF⟩ := hF.cons_inv
 obtain ⟨t11, l, rfl, r11, hF⟩ := hF.cons_inv
 obtain rfl := hF.nil_inv
 simp only [Nat.reduceAdd, Ty.size] at r0 r1 r2 r3 r4 r5 r6 r7 r8 r9 r10 r11
 obtain ⟨v0, e0⟩ := one_cell r0 rfl
 rw [e0] at r0
 obtain ⟨l0, rfl, _⟩ := r0.list_inv
 obtain ⟨x1, rfl, e1, i1⟩ := r1.str_inv
 obtain ⟨v2, e2⟩ := one_cell r2 rfl
 rw [e2] at r2
 obtain ⟨l2, rfl, _⟩ := r2.list_inv
 obtain ⟨b3, rfl, e3⟩ := r3.bool_inv
 obtain ⟨x4, rfl, e4, i4⟩ := r4.str_inv
 obtain ⟨v5, e5⟩ := one_cell r5 rfl
 rw [e5] at r5
 obtain ⟨l5, rfl, _⟩ := r5.list_inv
 obtain ⟨v6, e6⟩ := one_cell r6 rfl
 rw [e6] at r6
 obtain ⟨l6, rfl, _⟩ := r6.list_inv
 obtain ⟨x7, rfl, e7, i7⟩ := r7.str_inv
 obtain ⟨n8, rfl, e8, i8⟩ := r8.int_inv
 obtain ⟨n9, rfl, e9, i9⟩ := r9.int_inv
 obtain ⟨n10, rfl, e10, i10⟩ := r10.int_inv
 obtain ⟨n11, rfl, e11, i11⟩ := r11.int_inv
 rw [T.wt_agg] at hu
 refine cW 56 Tryz.func155 rfl rfl rfl ?_
 refine W.sq (W.rg (WL.box rfl rfl (WL.kp [(0, ptr p), (3, ptr w.heap.size)] ⟨rfl, rfl, trivial⟩ ?_)))
 have hb := hw.own_new cs 74
 have hw1 := hw.alloc (.cells cs.toArray 74)
 have fb : Fr O w O (w.alloc (.cells cs.toArray 74)) := Fr.alloc _ _ _
 show W _ _ _ _ _ _ (w.alloc (.cells cs.toArray 74))
 generalize w.alloc (.cells cs.toArray 74) = w1 at hb hw1 fb ⊢
 have P0 : Step w0 S p most long [] [.list l0, .str x1, .list l2, .bool b3, .str x4, .list l5, .list l6, .str x7, .int n8, .int n9, .int n10, .int n11] s O w s O w1 := ⟨hw1, fb, rfl, by omega, rfl⟩
 refine W.sq (W.rg (WL.mv rfl rfl (WL.fa rfl (fld74_0 _ _ _) rfl (WL.ld rfl (load1 iy64 (hb.cell1 e0)) rfl (WL.mv rfl rfl (WL.makeFunc rfl rfl rfl (WL.cl Tryz.call208 rfl rfl (c208 (fun t _ => wExpr t) _ r0 _ _ _ P0.st P0.hdl) ?_ (fun ch w' h a ha => tP (pP ha (P0.pan h (fun e => (enc_flat rfl).trans e)))))))))))
 rintro _ w' ⟨rfl, s', O', hs, f, hw'⟩
 have P1 : Step w0 S p most long [.list l0] [.str x1, .list l2, .bool b3, .str x4, .list l5, .list l6, .str x7, .int n8, .int n9, .int n10, .int n11] s O w s' O' w' := P0.next hs f hw'
 replace hb := f.keep hb
 refine WL.kp [(0, ptr p), (3, ptr w.heap.size)] ⟨rfl, rfl, trivial⟩ ?_
 refine W.sq (W.rg (WL.mv rfl rfl (WL.fa rfl (fld74_1 _ _ _) rfl (WL.ld rfl (load1 iy9 (hb.cell1 e1)) rfl (WL.cl Tryz.call151 rfl rfl (e151 i1 _ _ _ P1.st P1.hd1) ?_ (fun _ _ h => by obtain ⟨_, h, _⟩ := h; simp only [enc] at h; cases h))))))
 rintro _ w' ⟨rfl, s', O', hs, f, hw'⟩
 have P2 : Step w0 S p most long [.list l0, .str x1] [.list l2, .bool b3, .str x4, .list l5, .list l6, .str x7, .int n8, .int n9, .int n10, .int n11] s O w s' O' w' := P1.next hs f hw'
 replace hb := f.keep hb
 refine WL.kp [(0, ptr p), (3, ptr w.heap.size)] ⟨rfl, rfl, trivial⟩ ?_
 refine W.sq (W.rg (WL.mv rfl rfl (WL.fa rfl (fld74_2 _ _ _) rfl (WL.ld rfl (load1 iy44 (hb.cell1 e2)) rfl (WL.mv rfl rfl (WL.makeFunc rfl rfl rfl (WL.cl Tryz.call210 rfl rfl (c210 (fun t _ => w151 t) _ r2 _ _ _ P2.st P2.hdl) ?_ (fun ch w' h a ha => tP (pP ha (P2.pan h (fun e => (enc_flat rfl).trans e)))))))))))
 rintro _ w' ⟨rfl, s', O', hs, f, hw'⟩
 have P3 : Step w0 S p most long [.list l0, .str x1, .list l2] [.bool b3, .str x4, .list l5, .list l6, .str x7, .int n8, .int n9, .int n10, .int n11] s O w s' O' w' := P2.next hs f hw'
 replace hb := f.keep hb
 refine WL.kp [(0, ptr p), (3, ptr w.heap.size)] ⟨rfl, rfl, trivial⟩ ?_
 refine W.sq (W.rg (WL.mv rfl rfl (WL.fa rfl (fld74_3 _ _ _) rfl (WL.ld rfl (load1 iy4 (hb.cell1 e3)) rfl (WL.buildSlice rfl (slice_lit1 Tryz.underlying349 ty4 Tryz.zeroValue4 rfl rfl) rfl ?_)))))
 refine WL.cl Tryz.call206 rfl rfl (c206 (ns := [b3]) (P3.st.alloc _) (Step.hdb (ns := [b3]) P3) (P3.st.own_new _ 4)) ?_ nop
 rintro _ w' ⟨rfl, O', f, hw'⟩
 replace f := (Fr.alloc _ _ _).trans f
 have P4 : Step w0 S p most long [.list l0, .str x1, .list l2, .bool b3] [.str x4, .list l5, .list l6, .str x7, .int n8, .int n9, .int n10, .int n11] s O w _ O' w' := P3.bools (ns := [b3]) f hw'
 replace hb := f.keep hb
 refine WL.kp [(0, ptr p), (3, ptr w.heap.size)] ⟨rfl, rfl, trivial⟩ ?_
 refine W.sq (W.rg (WL.mv rfl rfl (WL.fa rfl (fld74_4 _ _ _) rfl (WL.ld rfl (load1 iy9 (hb.cell1 e4)) rfl (WL.cl Tryz.call151 rfl rfl (e151 i4 _ _ _ P4.st P4.hd1) ?_ (fun _ _ h => by obtain ⟨_, h, _⟩ := h; simp only [enc] at h; cases h))))))
 rintro _ w' ⟨rfl, s', O', hs, f, hw'⟩
 have P5 : Step w0 S p most long [.list l0, .str x1, .list l2, .bool b3, .str x4] [.list l5, .list l6, .str x7, .int n8, .int n9, .int n10, .int n11] s O w s' O' w' := P4.next hs f hw'
 replace hb := f.keep hb
 refine WL.kp [(0, ptr p), (3, ptr w.heap.size)] ⟨rfl, rfl, trivial⟩ ?_
 refine W.sq (W.rg (WL.mv rfl rfl (WL.fa rfl (fld74_5 _ _ _) rfl (WL.ld rfl (load1 iy68 (hb.cell1 e5)) rfl (WL.mv rfl rfl (WL.makeFunc rfl rfl rfl (WL.cl Tryz.call211 rfl rfl (c211 (fun t _ => wParam t) _ r5 _ _ _ P5.st P5.hdl) ?_ (fun ch w' h a ha => tP (pP ha (P5.pan h (fun e => (enc_flat rfl).trans e)))))))))))
 rintro _ w' ⟨rfl, s', O', hs, f, hw'⟩
 have P6 : Step w0 S p most long [.list l0, .str x1, .list l2, .bool b3, .str x4, .list l5] [.list l6, .str x7, .int n8, .int n9, .int n10, .int n11] s O w s' O' w' := P5.next hs f hw'
 replace hb := f.keep hb
 refine WL.kp [(0, ptr p), (3, ptr w.heap.size)] ⟨rfl, rfl, trivial⟩ ?_
 refine W.sq (W.rg (WL.mv rfl rfl (WL.fa rfl (fld74_6 _ _ _) rfl (WL.ld rfl (load1 iy56 (hb.cell1 e6)) rfl (WL.mv rfl rfl (WL.makeFunc rfl rfl rfl (WL.cl Tryz.call213 rfl rfl (c213 (fun t _ => wInstr t) _ r6 _ _ _ P6.st P6.hdl) ?_ (fun ch w' h a ha => tP (pP ha (P6.pan h (fun e => (enc_flat rfl).trans e)))))))))))
 rintro _ w' ⟨rfl, s', O', hs, f, hw'⟩
 have P7 : Step w0 S p most long [.list l0, .str x1, .list l2, .bool b3, .str x4, .list l5, .list l6] [.str x7, .int n8, .int n9, .int n10, .int n11] s O w s' O' w' := P6.next hs f hw'
 replace hb := f.keep hb
 refine WL.kp [(0, ptr p), (3, ptr w.heap.size)] ⟨rfl, rfl, trivial⟩ ?_
 refine W.sq (W.rg (WL.mv rfl rfl (WL.fa rfl (fld74_7 _ _ _) rfl (WL.ld rfl (load1 iy9 (hb.cell1 e7)) rfl (WL.cl Tryz.call151 rfl rfl (e151 i7 _ _ _ P7.st P7.hd1) ?_ (fun _ _ h => by obtain ⟨_, h, _⟩ := h; simp only [enc] at h; cases h))))))
 rintro _ w' ⟨rfl, s', O', hs, f, hw'⟩
 have P8 : Step w0 S p most long [.list l0, .str x1, .list l2, .bool b3, .str x4, .list l5, .list l6, .str x7] [.int n8, .int n9, .int n10, .int n11] s O w s' O' w' := P7.next hs f hw'
 replace hb := f.keep hb
 refine WL.kp [(0, ptr p), (3, ptr w.heap.size)] ⟨rfl, rfl, trivial⟩ ?_
 refine W.rg (WL.mv rfl rfl (WL.fa rfl (fld74_8 _ _ _) rfl (WL.ld rfl (load1 iy3 (hb.cell1 e8)) rfl (WL.fa rfl (fld74_9 _ _ _) rfl (WL.ld rfl (load1 iy3 (hb.cell1 e9)) rfl (WL.fa rfl (fld74_10 _ _ _) rfl (WL.ld rfl (load1 iy3 (hb.cell1 e10)) rfl (WL.fa rfl (fld74_11 _ _ _) rfl (WL.ld rfl (load1 iy3 (hb.cell1 e11)) rfl (WL.buildSlice rfl (slice_lit4 Tryz.underlying262 ty3 Tryz.zeroValue3 rfl rfl rfl rfl rfl) rfl ?_))))))))))
 refine WL.cl Tryz.call207 rfl rfl (c207 (ns := [n8, n9, n10, n11]) (ints4 i8 i9 i10 i11) (P8.st.alloc _) (Step.hdi (ns := [n8, n9, n10, n11]) P8) (P8.st.own_new _ 3)) ?_ nop
 rintro _ w' ⟨rfl, O', f, hw'⟩
 replace f := (Fr.alloc _ _ _).trans f
 have P9 : Step w0 S p most long [.list l0, .str x1, .list l2, .bool b3, .str x4, .list l5, .list l6, .str x7, .int n8, .int n9, .int n10, .int n11] [] s O w _ O' w' := P8.ints (ns := [n8, n9, n10, n11]) f hw'
 replace hb := f.keep hb
 exact WL.nil fun a ha => post_end0 rfl ha ⟨rfl, _, _, (enc_flat rfl).trans P9.en, P9.fr, P9.st⟩
set_option maxHeartbeats 2000000 in
theorem c157 {w0 : World} {S : Nat → Prop} {p most long : Nat} (t : T) : WEnc w0 S p most long 157 (.st .dfn) t := by
 intro cs hr s O w hw hu
 obtain ⟨l, rfl, hlen, hF⟩ := hr.st_inv
 obtain ⟨t0, l, rfl, r0, hF⟩ := hF.cons_inv
 obtain ⟨t1, l, rfl, r1, hF⟩ := hF.cons_inv
 obtain ⟨t2, l, rfl, r2, hF⟩ := hF.cons_inv
 obtain ⟨t3, l, rfl, r3, hF⟩ := hF.cons_inv
 obtain ⟨t4, l, rfl, r4, hF⟩ := hF.cons_inv
 obtain ⟨t5, l, rfl, r5, hF⟩ := hF.cons_inv
 obtain ⟨t6, l, rfl, r6, hF⟩ := hF.cons_inv
 obtain ⟨t7, l, rfl, r7, hF⟩ := hF.cons_inv
 obtain rfl := hF.nil_inv
 simp only [Nat.reduceAdd, Ty.size, SN.size] at r0 r1 r2 r3 r4 r5 r6 r7
 obtain ⟨x0, rfl, e0, i0⟩ := r0.str_inv
 obtain ⟨v1, e1⟩ := one_cell r1 rfl
 rw [e1] at r1
 obtain ⟨l1, rfl, _⟩ := r1.list_inv
 obtain ⟨x4, rfl, e4, i4⟩ := r4.str_inv
 obtain ⟨n5, rfl, e5, i5⟩ := r5.int_inv
 obtain ⟨n6, rfl, e6, i6⟩ := r6.int_inv
 obtain ⟨n7, rfl, e7, i7⟩ := r7.int_inv
 rw [T.wt_agg] at hu
 refine cW 35 Tryz.func157 rfl rfl rfl ?_
 refine W.sq (W.rg (WL.box rfl rfl (WL.kp [(0, ptr p), (3, ptr w.heap.size)] ⟨rfl, rfl, trivial⟩ ?_)))
 have hb := hw.own_new cs 140
 have hw1 := hw.alloc (.cells cs.toArray 140)
 have fb : Fr O w O (w.alloc (.cells cs.toArray 140)) := Fr.alloc _ _ _
 show W _ _ _ _ _ _ (w.alloc (.cells cs.toArray 140))
 generalize w.alloc (.cells cs.toArray 140) = w1 at hb hw1 fb ⊢
 have P0 : Step w0 S p most long [] [.str x0, .list l1, t2, t3, .str x4, .int n5, .int n6, .int n7] s O w s O w1 := ⟨hw1, fb, rfl, by omega, rfl⟩
 refine W.sq (W.rg (WL.mv rfl rfl (WL.fa rfl (fld140_0 _ _ _) rfl (WL.ld rfl (load1 iy9 (hb.cell1 e0)) rfl (WL.cl Tryz.call151 rfl rfl (e151 i0 _ _ _ P0.st P0.hd1) ?_ (fun _ _ h => by obtain ⟨_, h, _⟩ := h; simp only [enc] at h; cases h))))))
 rintro _ w' ⟨rfl, s', O', hs, f, hw'⟩
 have P1 : Step w0 S p most long [.str x0] [.list l1, t2, t3, .str x4, .int n5, .int n6, .int n7] s O w s' O' w' := P0.next hs f hw'
 replace hb := f.keep hb
 refine WL.kp [(0, ptr p), (3, ptr w.heap.size)] ⟨rfl, rfl, trivial⟩ ?_
 refine W.sq (W.rg (WL.mv rfl rfl (WL.fa rfl (fld140_1 _ _ _) rfl (WL.ld rfl (load1 iy68 (hb.cell1 e1)) rfl (WL.mv rfl rfl (WL.makeFunc rfl rfl rfl (WL.cl Tryz.call211 rfl rfl (c211 (fun t _ => wParam t) _ r1 _ _ _ P1.st P1.hdl) ?_ (fun ch w' h a ha => tP (pP ha (P1.pan h (fun e => (enc_flat rfl).trans e)))))))))))
 rintro _ w' ⟨rfl, s', O', hs, f, hw'⟩
 have P2 : Step w0 S p most long [.str x0, .list l1] [t2, t3, .str x4, .int n5, .int n6, .int n7] s O w s' O' w' := P1.next hs f hw'
 replace hb := f.keep hb
 refine WL.kp [(0, ptr p), (3, ptr w.heap.size)] ⟨rfl, rfl, trivial⟩ ?_
 refine W.sq (W.rg (WL.mv rfl rfl (WL.fa rfl (fld140_2 _ _ _) rfl (WL.ld rfl (loadN iy63 (Rep.one _ _ _ r2).1 (hb.blk.at_ 2 5)) rfl (WL.cl Tryz.call215 rfl rfl (c215 _ _ r2 _ _ _ P2.st P2.hd) ?_ (fun ch w' h a ha => tP (pP ha (P2.pan h (fun e => (enc_flat rfl).trans e)))))))))
 rintro _ w' ⟨rfl, s', O', hs, f, hw'⟩
 have P3 : Step w0 S p most long [.str x0, .list l1, t2] [t3, .str x4, .int n5, .int n6, .int n7] s O w s' O' w' := P2.next hs f hw'
 replace hb := f.keep hb
 refine WL.kp [(0, ptr p), (3, ptr w.heap.size)] ⟨rfl, rfl, trivial⟩ ?_
 refine W.sq (W.rg (WL.mv rfl rfl (WL.fa rfl (fld140_3 _ _ _) rfl (WL.ld rfl (loadN iy66 (Rep.one _ _ _ r3).1 (hb.blk.at_ 7 16)) rfl (WL.cl Tryz.call209 rfl rfl (wExpr _ _ r3 _ _ _ P3.st P3.hd) ?_ (fun ch w' h a ha => tP (pP ha (P3.pan h (fun e => (enc_flat rfl).trans e)))))))))
 rintro _ w' ⟨rfl, s', O', hs, f, hw'⟩
 have P4 : Step w0 S p most long [.str x0, .list l1, t2, t3] [.str x4, .int n5, .int n6, .int n7] s O w s' O' w' := P3.next hs f hw'
 replace hb := f.keep hb
 refine WL.kp [(0, ptr p), (3, ptr w.heap.size)] ⟨rfl, rfl, trivial⟩ ?_
 refine W.sq (W.rg (WL.mv rfl rfl (WL.fa rfl (fld140_4 _ _ _) rfl (WL.ld rfl (load1 iy9 (hb.cell1 e4)) rfl (WL.cl Tryz.call151 rfl rfl (e151 i4 _ _ _ P4.st P4.hd1) ?_ (fun _ _ h => by obtain ⟨_, h, _⟩ := h; simp only [enc] at h; cases h))))))
 rintro _ w' ⟨rfl, s', O', hs, f, hw'⟩
 have P5 : Step w0 S p most long [.str x0, .list l1, t2, t3, .str x4] [.int n5, .int n6, .int n7] s O w s' O' w' := P4.next hs f hw'
 replace hb := f.keep hb
 refine WL.kp [(0, ptr p), (3, ptr w.heap.size)] ⟨rfl, rfl, trivial⟩ ?_
 refine W.rg (WL.mv rfl rfl (WL.fa rfl (fld140_5 _ _ _) rfl (WL.ld rfl (load1 iy3 (hb.cell1 e5)) rfl (WL.fa rfl (fld140_6 _ _ _) rfl (WL.ld rfl (load1 iy3 (hb.cell1 e6)) rfl (WL.fa rfl (fld140_7 _ _ _) rfl (WL.ld rfl (load1 iy3 (hb.cell1 e7)) rfl (WL.buildSlice rfl (slice_lit3 Tryz.underlying262 ty3 Tryz.zeroValue3 rfl rfl rfl rfl) rfl ?_))))))))
 refine WL.cl Tryz.call207 rfl rfl (c207 (ns := [n5, n6, n7]) (ints3 i5 i6 i7) (P5.st.alloc _) (Step.hdi (ns := [n5, n6, n7]) P5) (P5.st.own_new _ 3)) ?_ nop
 rintro _ w' ⟨rfl, O', f, hw'⟩
 replace f := (Fr.alloc _ _ _).trans f
 have P6 : Step w0 S p most long [.str x0, .list l1, t2, t3, .str x4, .int n5, .int n6, .int n7] [] s O w _ O' w' := P5.ints (ns := [n5, n6, n7]) f hw'
 replace hb := f.keep hb
 exact WL.nil fun a ha => post_end0 rfl ha ⟨rfl, _, _, (enc_flat rfl).trans P6.en, P6.fr, P6.st⟩
set_option maxHeartbeats 2000000 in
theorem c159 {w0 : World} {S : Nat → Prop} {p most long : Nat} (t : T) : WEnc w0 S p most long 159 (.st .global) t := by
 intro cs hr s O w hw hu
 obtain ⟨l, rfl, hlen, hF⟩ := hr.st_inv
 obtain ⟨t0, l, rfl, r0, hF⟩ := hF.cons_inv
 obtain ⟨t1, l, rfl, r1, hF⟩ := hF.cons_inv
 obtain ⟨t2, l, rfl, r2, hF⟩ := hF.cons_inv
 obtain ⟨t3, l, rfl, r3, hF⟩ := hF.cons_inv
 obtain ⟨t4, l, rfl, r4, hF⟩ := hF.cons_inv
 obtain ⟨t5, l, rfl, r5, hF⟩ := hF.cons_inv
 obtain ⟨t6, l, rfl, r6, hF⟩ := hF.cons_inv
 obtain ⟨t7, l, rfl, r7, hF⟩ := hF.cons_inv
 obtain ⟨t8, l, rfl, r8, hF⟩ := hF.cons_inv
 obtain ⟨t9, l, rfl, r9, hF⟩ := hF.cons_inv
 obtain rfl := hF.nil_inv
 simp only [Nat.reduceAdd, Ty.size, SN.size] at r0 r1 r2 r3 r4 r5 r6 r7 r8 r9
 obtain ⟨x0, rfl, e0, i0⟩ := r0.str_inv
 obtain ⟨b1, rfl, e1⟩ := r1.bool_inv
 obtain ⟨b3, rfl, e3⟩ := r3.bool_inv
 obtain ⟨v5, e5⟩ := one_cell r5 rfl
 rw [e5] at r5
 obtain ⟨l5, rfl, _⟩ := r5.list_inv
 obtain ⟨x6, rfl, e6, i6⟩ := r6.str_inv
 obtain ⟨n7, rfl, e7, i7⟩ := r7.int_inv
 obtain ⟨n8, rfl, e8, i8⟩ := r8.int_inv
 obtain ⟨n9, rfl, e9, i9⟩ := r9.int_inv
 rw [T.wt_agg] at hu
 refine cW 45 Tryz.func159 rfl rfl rfl ?_
 refine W.sq (W.rg (WL.box rfl rfl (WL.kp [(0, ptr p), (3, ptr w.heap.size)] ⟨rfl, rfl, trivial⟩ ?_)))
 have hb := hw.own_new cs 144
 have hw1 := hw.alloc (.cells cs.toArray 144)
 have fb : Fr O w O (w.alloc (.cells cs.toArray 144)) := Fr.alloc _ _ _
 show W _ _ _ _ _ _ (w.alloc (.cells cs.toArray 144))
 generalize w.alloc (.cells cs.toArray 144) = w1 at hb hw1 fb ⊢
 have P0 : Step w0 S p most long [] [.str x0, .bool b1, t2, .bool b3, t4, .list l5, .str x6, .int n7, .int n8, .int n9] s O w s O w1 := ⟨hw1, fb, rfl, by omega, rfl⟩
 refine W.sq (W.rg (WL.mv rfl rfl (WL.fa rfl (fld144_0 _ _ _) rfl (WL.ld rfl (load1 iy9 (hb.cell1 e0)) rfl (WL.cl Tryz.call151 rfl rfl (e151 i0 _ _ _ P0.st P0.hd1) ?_ (fun _ _ h => by obtain ⟨_, h, _⟩ := h; simp only [enc] at h; cases h))))))
 rintro _ w' ⟨rfl, s', O', hs, f, hw'⟩
 have P1 : Step w0 S p most long [.str x0] [.bool b1, t2, .bool b3, t4, .list l5, .str x6, .int n7, .int n8, .int n9] s O w s' O' w' := P0.next hs f hw'
 replace hb := f.keep hb
 refine WL.kp [(0, ptr p), (3, ptr w.heap.size)] ⟨rfl, rfl, trivial⟩ ?_
 refine W.sq (W.rg (WL.mv rfl rfl (WL.fa rfl (fld144_1 _ _ _) rfl (WL.ld rfl (load1 iy4 (hb.cell1 e1)) rfl (WL.buildSlice rfl (slice_lit1 Tryz.underlying349 ty4 Tryz.zeroValue4 rfl rfl) rfl ?_)))))
 refine WL.cl Tryz.call206 rfl rfl (c206 (ns := [b1]) (P1.st.alloc _) (Step.hdb (ns := [b1]) P1) (P1.st.own_new _ 4)) ?_ nop
 rintro _ w' ⟨rfl, O', f, hw'⟩
 replace f := (Fr.alloc _ _ _).trans f
 have P2 : Step w0 S p most long [.str x0, .bool b1] [t2, .bool b3, t4, .list l5, .str x6, .int n7, .int n8, .int n9] s O w _ O' w' := P1.bools (ns := [b1]) f hw'
 replace hb := f.keep hb
 refine WL.kp [(0, ptr p), (3, ptr w.heap.size)] ⟨rfl, rfl, trivial⟩ ?_
 refine W.sq (W.rg (WL.mv rfl rfl (WL.fa rfl (fld144_2 _ _ _) rfl (WL.ld rfl (loadN iy63 (Rep.one _ _ _ r2).1 (hb.blk.at_ 2 5)) rfl (WL.cl Tryz.call215 rfl rfl (c215 _ _ r2 _ _ _ P2.st P2.hd) ?_ (fun ch w' h a ha => tP (pP ha (P2.pan h (fun e => (enc_flat rfl).trans e)))))))))
 rintro _ w' ⟨rfl, s', O', hs, f, hw'⟩
 have P3 : Step w0 S p most long [.str x0, .bool b1, t2] [.bool b3, t4, .list l5, .str x6, .int n7, .int n8, .int n9] s O w s' O' w' := P2.next hs f hw'
 replace hb := f.keep hb
 refine WL.kp [(0, ptr p), (3, ptr w.heap.size)] ⟨rfl, rfl, trivial⟩ ?_
 refine W.sq (W.rg (WL.mv rfl rfl (WL.fa rfl (fld144_3 _ _ _) rfl (WL.ld rfl (load1 iy4 (hb.cell1 e3)) rfl (WL.buildSlice rfl (slice_lit1 Tryz.underlying349 ty4 Tryz.zeroValue4 rfl rfl) rfl ?_)))))
 refine WL.cl Tryz.call206 rfl rfl (c206 (ns := [b3]) (P3.st.alloc _) (Step.hdb (ns := [b3]) P3) (P3.st.own_new _ 4)) ?_ nop
 rintro _ w' ⟨rfl, O', f, hw'⟩
 replace f := (Fr.alloc _ _ _).trans f
 have P4 : Step w0 S p most long [.str x0, .bool b1, t2, .bool b3] [t4, .list l5, .str x6, .int n7, .int n8, .int n9] s O w _ O' w' := P3.bools (ns := [b3]) f hw'
 replace hb := f.keep hb
 refine WL.kp [(0, ptr p), (3, ptr w.heap.size)] ⟨rfl, rfl, trivial⟩ ?_
 refine W.sq (W.rg (WL.mv rfl rfl (WL.fa rfl (fld144_4 _ _ _) rfl (WL.ld rfl (loadN iy66 (Rep.one _ _ _ r4).1 (hb.blk.at_ 8 16)) rfl (WL.cl Tryz.call209 rfl rfl (wExpr _ _ r4 _ _ _ P4.st P4.hd) ?_ (fun ch w' h a ha => tP (pP ha (P4.pan h (fun e => (enc_flat rfl).trans e)))))))))
 rintro _ w' ⟨rfl, s', O', hs, f, hw'⟩
 have P5 : Step w0 S p most long [.str x0, .bool b1, t2, .bool b3, t4] [.list l5, .str x6, .int n7, .int n8, .int n9] s O w s' O' w' := P4.next hs f hw'
 replace hb := f.keep hb
 refine WL.kp [(0, ptr p), (3, ptr w.heap.size)] ⟨rfl, rfl, trivial⟩ ?_
 refine W.sq (W.rg (WL.mv rfl rfl (WL.fa rfl (fld144_5 _ _ _) rfl (WL.ld rfl (load1 iy56 (hb.cell1 e5)) rfl (WL.mv rfl rfl (WL.makeFunc rfl rfl rfl (WL.cl Tryz.call213 rfl rfl (c213 (fun t _ => wInstr t) _ r5 _ _ _ P5.st P5.hdl) ?_ (fun ch w' h a ha => tP (pP ha (P5.pan h (fun e => (enc_flat rfl).trans e)))))))))))
 rintro _ w' ⟨rfl, s', O', hs, f, hw'⟩
 have P6 : Step w0 S p most long [.str x0, .bool b1, t2, .bool b3, t4, .list l5] [.str x6, .int n7, .int n8, .int n9] s O w s' O' w' := P5.next hs f hw'
 replace hb := f.keep hb
 refine WL.kp [(0, ptr p), (3, ptr w.heap.size)] ⟨rfl, rfl, trivial⟩ ?_
 refine W.sq (W.rg (WL.mv rfl rfl (WL.fa rfl (fld144_6 _ _ _) rfl (WL.ld rfl (load1 iy9 (hb.cell1 e6)) rfl (WL.cl Tryz.call151 rfl rfl (e151 i6 _ _ _ P6.st P6.hd1) ?_ (fun _ _ h => by obtain ⟨_, h, _⟩ := h; simp only [enc] at h; cases h))))))
 rintro _ w' ⟨rfl, s', O', hs, f, hw'⟩
 have P7 : Step w0 S p most long [.str x0, .bool b1, t2, .bool b3, t4, .list l5, .str x6] [.int n7, .int n8, .int n9] s O w s' O' w' := P6.next hs f hw'
 replace hb := f.keep hb
 refine WL.kp [(0, ptr p), (3, ptr w.heap.size)] ⟨rfl, rfl, trivial⟩ ?_
 refine W.rg (WL.mv rfl rfl (WL.fa rfl (fld144_7 _ _ _) rfl (WL.ld rfl (load1 iy3 (hb.cell1 e7)) rfl (WL.fa rfl (fld144_8 _ _ _) rfl (WL.ld rfl (load1 iy3 (hb.cell1 e8)) rfl (WL.fa rfl (fld144_9 _ _ _) rfl (WL.ld rfl (load1 iy3 (hb.cell1 e9)) rfl (WL.buildSlice rfl (slice_lit3 Tryz.underlying262 ty3 Tryz.zeroValue3 rfl rfl rfl rfl) rfl ?_))))))))
 refine WL.cl Tryz.call207 rfl rfl (c207 (ns := [n7, n8, n9]) (ints3 i7 i8 i9) (P7.st.alloc _) (Step.hdi (ns := [n7, n8, n9]) P7) (P7.st.own_new _ 3)) ?_ nop
 rintro _ w' ⟨rfl, O', f, hw'⟩
 replace f := (Fr.alloc _ _ _).trans f
 have P8 : Step w0 S p most long [.str x0, .bool b1, t2, .bool b3, t4, .list l5, .str x6, .int n7, .int n8, .int n9] [] s O w _ O' w' := P7.ints (ns := [n7, n8, n9]) f hw'
 replace hb := f.keep hb
 exact WL.nil fun a ha => post_end0 rfl ha ⟨rfl, _, _, (enc_flat rfl).trans P8.en, P8.fr, P8.st⟩
set_option maxHeartbeats 2000000 in
theorem c161 {w0 : World} {S : Nat → Prop} {p most long : Nat} (t : T) : WEnc w0 S p most long 161 (.st .key) t := by
 intro cs hr s O w hw hu
 obtain ⟨l, rfl, hlen, hF⟩ := hr.st_inv
 obtain ⟨t0, l, rfl, r0, hF⟩ := hF.cons_inv
 obtain ⟨t1, l, rfl, r1, hF⟩ := hF.cons_inv
 obtain ⟨t2, l, rfl, r2, hF⟩ := hF.cons_inv
 obtain rfl := hF.nil_inv
 simp only [Nat.reduceAdd, Ty.size, SN.size] at r0 r1 r2
 obtain ⟨x0, rfl, e0, i0⟩ := r0.str_inv
 obtain ⟨v1, e1⟩ := one_cell r1 rfl
 rw [e1] at r1
 obtain ⟨l1, rfl, _⟩ := r1.list_inv
 rw [T.wt_agg] at hu
 refine cW 18 Tryz.func161 rfl rfl rfl ?_
 refine W.sq (W.rg (WL.box rfl rfl (WL.kp [(0, ptr p), (3, ptr w.heap.size)] ⟨rfl, rfl, trivial⟩ ?_)))
 have hb := hw.own_new cs 76
 have hw1 := hw.alloc (.cells cs.toArray 76)
 have fb : Fr O w O (w.alloc (.cells cs.toArray 76)) := Fr.alloc _ _ _
 show W _ _ _ _ _ _ (w.alloc (.cells cs.toArray 76))
 generalize w.alloc (.cells cs.toArray 76) = w1 at hb hw1 fb ⊢
 have P0 : Step w0 S p most long [] [.str x0, .list l1, t2] s O w s O w1 := ⟨hw1, fb, rfl, by omega, rfl⟩
 refine W.sq (W.rg (WL.mv rfl rfl (WL.fa rfl (fld76_0 _ _ _) rfl (WL.ld rfl (load1 iy9 (hb.cell1 e0)) rfl (WL.cl Tryz.call151 rfl rfl (e151 i0 _ _ _ P0.st P0.hd1) ?_ (fun _ _ h => by obtain ⟨_, h, _⟩ := h; simp only [enc] at h; cases h))))))
 rintro _ w' ⟨rfl, s', O', hs, f, hw'⟩
 have P1 : Step w0 S p most long [.str x0] [.list l1, t2] s O w s' O' w' := P0.next hs f hw'
 replace hb := f.keep hb
 refine WL.kp [(0, ptr p), (3, ptr w.heap.size)] ⟨rfl, rfl, trivial⟩ ?_
 refine W.sq (W.rg (WL.mv rfl rfl (WL.fa rfl (fld76_1 _ _ _) rfl (WL.ld rfl (load1 iy64 (hb.cell1 e1)) rfl (WL.mv rfl rfl (WL.makeFunc rfl rfl rfl (WL.cl Tryz.call208 rfl rfl (c208 (fun t _ => wExpr t) _ r1 _ _ _ P1.st P1.hdl) ?_ (fun ch w' h a ha => tP (pP ha (P1.pan h (fun e => (enc_flat rfl).trans e)))))))))))
 rintro _ w' ⟨rfl, s', O', hs, f, hw'⟩
 have P2 : Step w0 S p most long [.str x0, .list l1] [t2] s O w s' O' w' := P1.next hs f hw'
 replace hb := f.keep hb
 refine WL.kp [(0, ptr p), (3, ptr w.heap.size)] ⟨rfl, rfl, trivial⟩ ?_
 refine W.rg (WL.mv rfl rfl (WL.fa rfl (fld76_2 _ _ _) rfl (WL.ld rfl (loadN iy66 (Rep.one _ _ _ r2).1 (hb.blk.at_ 2 16)) rfl (WL.cl Tryz.call209 rfl rfl (wExpr _ _ r2 _ _ _ P2.st P2.hd) ?_ (fun ch w' h a ha => pP ha (P2.pan h (fun e => (enc_flat rfl).trans e)))))))
 rintro _ w' ⟨rfl, s', O', hs, f, hw'⟩
 have P3 : Step w0 S p most long [.str x0, .list l1, t2] [] s O w s' O' w' := P2.next hs f hw'
 replace hb := f.keep hb
 exact WL.nil fun a ha => post_end0 rfl ha ⟨rfl, _, _, (enc_flat rfl).trans P3.en, P3.fr, P3.st⟩
set_option maxHeartbeats 2000000 in
theorem c217 {w0 : World} {S : Nat → Prop} {p most long : Nat} (t : T) : WEnc w0 S p most long 217 (.st .rule) t := by
 intro cs hr s O w hw hu
 obtain ⟨l, rfl, hlen, hF⟩ := hr.st_inv
 obtain ⟨t0, l, rfl, r0, hF⟩ := hF.cons_inv
 obtain ⟨t1, l, rfl, r1, hF⟩ := hF.cons_inv
 obtain ⟨t2, l, rfl, r2, hF⟩ := hF.cons_inv
 obtain rfl := hF.nil_inv
 simp only [Nat.reduceAdd, Ty.size, SN.size] at r0 r1 r2
 obtain ⟨v0, e0⟩ := one_cell r0 rfl
 rw [e0] at r0
 obtain ⟨l0, rfl, _⟩ := r0.list_inv
 obtain ⟨b1, rfl, e1⟩ := r1.bool_inv
 rw [T.wt_agg] at hu
 refine cW 19 Tryz.func217 rfl rfl rfl ?_
 refine W.sq (W.rg (WL.box rfl rfl (WL.kp [(0, ptr p), (3, ptr w.heap.size)] ⟨rfl, rfl, trivial⟩ ?_)))
 have hb := hw.own_new cs 182
 have hw1 := hw.alloc (.cells cs.toArray 182)
 have fb : Fr O w O (w.alloc (.cells cs.toArray 182)) := Fr.alloc _ _ _
 show W _ _ _ _ _ _ (w.alloc (.cells cs.toArray 182))
 generalize w.alloc (.cells cs.toArray 182) = w1 at hb hw1 fb ⊢
 have P0 : Step w0 S p most long [] [.list l0, .bool b1, t2] s O w s O w1 := ⟨hw1, fb, rfl, by omega, rfl⟩
 refine W.sq (W.rg (WL.mv rfl rfl (WL.fa rfl (fld182_0 _ _ _) rfl (WL.ld rfl (load1 iy64 (hb.cell1 e0)) rfl (WL.mv rfl rfl (WL.makeFunc rfl rfl rfl (WL.cl Tryz.call208 rfl rfl (c208 (fun t _ => wExpr t) _ r0 _ _ _ P0.st P0.hdl) ?_ (fun ch w' h a ha => tP (pP ha (P0.pan h (fun e => (enc_flat rfl).trans e)))))))))))
 rintro _ w' ⟨rfl, s', O', hs, f, hw'⟩
 have P1 : Step w0 S p most long [.list l0] [.bool b1, t2] s O w s' O' w' := P0.next hs f hw'
 replace hb := f.keep hb
 refine WL.kp [(0, ptr p), (3, ptr w.heap.size)] ⟨rfl, rfl, trivial⟩ ?_
 refine W.sq (W.rg (WL.mv rfl rfl (WL.fa rfl (fld182_1 _ _ _) rfl (WL.ld rfl (load1 iy4 (hb.cell1 e1)) rfl (WL.buildSlice rfl (slice_lit1 Tryz.underlying349 ty4 Tryz.zeroValue4 rfl rfl) rfl ?_)))))
 refine WL.cl Tryz.call206 rfl rfl (c206 (ns := [b1]) (P1.st.alloc _) (Step.hdb (ns := [b1]) P1) (P1.st.own_new _ 4)) ?_ nop
 rintro _ w' ⟨rfl, O', f, hw'⟩
 replace f := (Fr.alloc _ _ _).trans f
 have P2 : Step w0 S p most long [.list l0, .bool b1] [t2] s O w _ O' w' := P1.bools (ns := [b1]) f hw'
 replace hb := f.keep hb
 refine WL.kp [(0, ptr p), (3, ptr w.heap.size)] ⟨rfl, rfl, trivial⟩ ?_
 refine W.rg (WL.mv rfl rfl (WL.fa rfl (fld182_2 _ _ _) rfl (WL.ld rfl (loadN iy66 (Rep.one _ _ _ r2).1 (hb.blk.at_ 2 16)) rfl (WL.cl Tryz.call209 rfl rfl (wExpr _ _ r2 _ _ _ P2.st P2.hd) ?_ (fun ch w' h a ha => pP ha (P2.pan h (fun e => (enc_flat rfl).trans e)))))))
 rintro _ w' ⟨rfl, s', O', hs, f, hw'⟩
 have P3 : Step w0 S p most long [.list l0, .bool b1, t2] [] s O w s' O' w' := P2.next hs f hw'
 replace hb := f.keep hb
 exact WL.nil fun a ha => post_end0 rfl ha ⟨rfl, _, _, (enc_flat rfl).trans P3.en, P3.fr, P3.st⟩
set_option maxHeartbeats 2000000 in
theorem c163 {w0 : World} {S : Nat → Prop} {p most long : Nat} (t : T) : WEnc w0 S p most long 163 (.st .accum) t := by
 intro cs hr s O w hw hu
 obtain ⟨l, rfl, hlen, hF⟩ := hr.st_inv
 obtain ⟨t0, l, rfl, r0, hF⟩ := hF.cons_inv
 obtain ⟨t1, l, rfl, r1, hF⟩ := hF.cons_inv
 obtain ⟨t2, l, rfl, r2, hF⟩ := hF.cons_inv
 obtain rfl := hF.nil_inv
 simp only [Nat.reduceAdd, Ty.size, SN.size] at r0 r1 r2
 obtain ⟨x0, rfl, e0, i0⟩ := r0.str_inv
 obtain ⟨v2, e2⟩ := one_cell r2 rfl
 rw [e2] at r2
 obtain ⟨l2, rfl, _⟩ := r2.list_inv
 rw [T.wt_agg] at hu
 refine cW 18 Tryz.func163 rfl rfl rfl ?_
 refine W.sq (W.rg (WL.box rfl rfl (WL.kp [(0, ptr p), (3, ptr w.heap.size)] ⟨rfl, rfl, trivial⟩ ?_)))
 have hb := hw.own_new cs 151
 have hw1 := hw.alloc (.cells cs.toArray 151)
 have fb : Fr O w O (w.alloc (.cells cs.toArray 151)) := Fr.alloc _ _ _
 show W _ _ _ _ _ _ (w.alloc (.cells cs.toArray 151))
 generalize w.alloc (.cells cs.toArray 151) = w1 at hb hw1 fb ⊢
 have P0 : Step w0 S p most long [] [.str x0, t1, .list l2] s O w s O w1 := ⟨hw1, fb, rfl, by omega, rfl⟩
 refine W.sq (W.rg (WL.mv rfl rfl (WL.fa rfl (fld151_0 _ _ _) rfl (WL.ld rfl (load1 iy9 (hb.cell1 e0)) rfl (WL.cl Tryz.call151 rfl rfl (e151 i0 _ _ _ P0.st P0.hd1) ?_ (fun _ _ h => by obtain ⟨_, h, _⟩ := h; simp only [enc] at h; cases h))))))
 rintro _ w' ⟨rfl, s', O', hs, f, hw'⟩
 have P1 : Step w0 S p most long [.str x0] [t1, .list l2] s O w s' O' w' := P0.next hs f hw'
 replace hb := f.keep hb
 refine WL.kp [(0, ptr p), (3, ptr w.heap.size)] ⟨rfl, rfl, trivial⟩ ?_
 refine W.sq (W.rg (WL.mv rfl rfl (WL.fa rfl (fld151_1 _ _ _) rfl (WL.ld rfl (loadN iy66 (Rep.one _ _ _ r1).1 (hb.blk.at_ 1 16)) rfl (WL.cl Tryz.call209 rfl rfl (wExpr _ _ r1 _ _ _ P1.st P1.hd) ?_ (fun ch w' h a ha => tP (pP ha (P1.pan h (fun e => (enc_flat rfl).trans e)))))))))
 rintro _ w' ⟨rfl, s', O', hs, f, hw'⟩
 have P2 : Step w0 S p most long [.str x0, t1] [.list l2] s O w s' O' w' := P1.next hs f hw'
 replace hb := f.keep hb
 refine WL.kp [(0, ptr p), (3, ptr w.heap.size)] ⟨rfl, rfl, trivial⟩ ?_
 refine W.rg (WL.mv rfl rfl (WL.fa rfl (fld151_2 _ _ _) rfl (WL.ld rfl (load1 iy149 (hb.cell1 e2)) rfl (WL.mv rfl rfl (WL.makeFunc rfl rfl rfl (WL.cl Tryz.call216 rfl rfl (c216 (fun t _ => c217 t) _ r2 _ _ _ P2.st P2.hdl) ?_ (fun ch w' h a ha => pP ha (P2.pan h (fun e => (enc_flat rfl).trans e)))))))))
 rintro _ w' ⟨rfl, s', O', hs, f, hw'⟩
 have P3 : Step w0 S p most long [.str x0, t1, .list l2] [] s O w s' O' w' := P2.next hs f hw'
 replace hb := f.keep hb
 exact WL.nil fun a ha => post_end0 rfl ha ⟨rfl, _, _, (enc_flat rfl).trans P3.en, P3.fr, P3.st⟩
set_option maxHeartbeats 2000000 in
theorem c165 {w0 : World} {S : Nat → Prop} {p most long : Nat} (t : T) : WEnc w0 S p most long 165 (.st .mode) t := by
 intro cs hr s O w hw hu
 obtain ⟨l, rfl, hlen, hF⟩ := hr.st_inv
 obtain ⟨t0, l, rfl, r0, hF⟩ := hF.cons_inv
 obtain ⟨t1, l, rfl, r1, hF⟩ := hF.cons_inv
 obtain ⟨t2, l, rfl, r2, hF⟩ := hF.cons_inv
 obtain ⟨t3, l, rfl, r3, hF⟩ := hF.cons_inv
 obtain ⟨t4, l, rfl, r4, hF⟩ := hF.cons_inv
 obtain ⟨t5, l, rfl, r5, hF⟩ := hF.cons_inv
 obtain rfl := hF.nil_inv
 simp only [Nat.reduceAdd, Ty.size] at r0 r1 r2 r3 r4 r5
 obtain ⟨x0, rfl, e0, i0⟩ := r0.str_inv
 obtain ⟨x1, rfl, e1, i1⟩ := r1.str_inv
 obtain ⟨b2, rfl, e2⟩ := r2.bool_inv
 obtain ⟨b3, rfl, e3⟩ := r3.bool_inv
 obtain ⟨x4, rfl, e4, i4⟩ := r4.str_inv
 obtain ⟨n5, rfl, e5, i5⟩ := r5.int_inv
 rw [T.wt_agg] at hu
 refine cW 27 Tryz.func165 rfl rfl rfl ?_
 refine W.sq (W.rg (WL.box rfl rfl (WL.kp [(0, ptr p), (3, ptr w.heap.size)] ⟨rfl, rfl, trivial⟩ ?_)))
 have hb := hw.own_new cs 84
 have hw1 := hw.alloc (.cells cs.toArray 84)
 have fb : Fr O w O (w.alloc (.cells cs.toArray 84)) := Fr.alloc _ _ _
 show W _ _ _ _ _ _ (w.alloc (.cells cs.toArray 84))
 generalize w.alloc (.cells cs.toArray 84) = w1 at hb hw1 fb ⊢
 have P0 : Step w0 S p most long [] [.str x0, .str x1, .bool b2, .bool b3, .str x4, .int n5] s O w s O w1 := ⟨hw1, fb, rfl, by omega, rfl⟩
 refine W.sq (W.rg (WL.mv rfl rfl (WL.fa rfl (fld84_0 _ _ _) rfl (WL.ld rfl (load1 iy9 (hb.cell1 e0)) rfl (WL.cl Tryz.call151 rfl rfl (e151 i0 _ _ _ P0.st P0.hd1) ?_ (fun _ _ h => by obtain ⟨_, h, _⟩ := h; simp only [enc] at h; cases h))))))
 rintro _ w' ⟨rfl, s', O', hs, f, hw'⟩
 have P1 : Step w0 S p most long [.str x0] [.str x1, .bool b2, .bool b3, .str x4, .int n5] s O w s' O' w' := P0.next hs f hw'
 replace hb := f.keep hb
 refine WL.kp [(0, ptr p), (3, ptr w.heap.size)] ⟨rfl, rfl, trivial⟩ ?_
 refine W.sq (W.rg (WL.mv rfl rfl (WL.fa rfl (fld84_1 _ _ _) rfl (WL.ld rfl (load1 iy9 (hb.cell1 e1)) rfl (WL.cl Tryz.call151 rfl rfl (e151 i1 _ _ _ P1.st P1.hd1) ?_ (fun _ _ h => by obtain ⟨_, h, _⟩ := h; simp only [enc] at h; cases h))))))
 rintro _ w' ⟨rfl, s', O', hs, f, hw'⟩
 have P2 : Step w0 S p most long [.str x0, .str x1] [.bool b2, .bool b3, .str x4, .int n5] s O w s' O' w' := P1.next hs f hw'
 replace hb := f.keep hb
 refine WL.kp [(0, ptr p), (3, ptr w.heap.size)] ⟨rfl, rfl, trivial⟩ ?_
 refine W.sq (W.rg (WL.mv rfl rfl (WL.fa rfl (fld84_2 _ _ _) rfl (WL.ld rfl (load1 iy4 (hb.cell1 e2)) rfl (WL.fa rfl (fld84_3 _ _ _) rfl (WL.ld rfl (load1 iy4 (hb.cell1 e3)) rfl (WL.buildSlice rfl (slice_lit2 Tryz.underlying349 ty4 Tryz.zeroValue4 rfl rfl rfl) rfl ?_)))))))
 refine WL.cl Tryz.call206 rfl rfl (c206 (ns := [b2, b3]) (P2.st.alloc _) (Step.hdb (ns := [b2, b3]) P2) (P2.st.own_new _ 4)) ?_ nop
 rintro _ w' ⟨rfl, O', f, hw'⟩
 replace f := (Fr.alloc _ _ _).trans f
 have P3 : Step w0 S p most long [.str x0, .str x1, .bool b2, .bool b3] [.str x4, .int n5] s O w _ O' w' := P2.bools (ns := [b2, b3]) f hw'
 replace hb := f.keep hb
 refine WL.kp [(0, ptr p), (3, ptr w.heap.size)] ⟨rfl, rfl, trivial⟩ ?_
 refine W.sq (W.rg (WL.mv rfl rfl (WL.fa rfl (fld84_4 _ _ _) rfl (WL.ld rfl (load1 iy9 (hb.cell1 e4)) rfl (WL.cl Tryz.call151 rfl rfl (e151 i4 _ _ _ P3.st P3.hd1) ?_ (fun _ _ h => by obtain ⟨_, h, _⟩ := h; simp only [enc] at h; cases h))))))
 rintro _ w' ⟨rfl, s', O', hs, f, hw'⟩
 have P4 : Step w0 S p most long [.str x0, .str x1, .bool b2, .bool b3, .str x4] [.int n5] s O w s' O' w' := P3.next hs f hw'
 replace hb := f.keep hb
 refine WL.kp [(0, ptr p), (3, ptr w.heap.size)] ⟨rfl, rfl, trivial⟩ ?_
 refine W.rg (WL.mv rfl rfl (WL.fa rfl (fld84_5 _ _ _) rfl (WL.ld rfl (load1 iy3 (hb.cell1 e5)) rfl (WL.cl Tryz.call218 rfl rfl (e218 i5 _ _ _ P4.st P4.hd1) ?_ (fun _ _ h => by obtain ⟨_, h, _⟩ := h; simp only [enc] at h; cases h)))))
 rintro _ w' ⟨rfl, s', O', hs, f, hw'⟩
 have P5 : Step w0 S p most long [.str x0, .str x1, .bool b2, .bool b3, .str x4, .int n5] [] s O w s' O' w' := P4.next hs f hw'
 replace hb := f.keep hb
 exact WL.nil fun a ha => post_end0 rfl ha ⟨rfl, _, _, (enc_flat rfl).trans P5.en, P5.fr, P5.st⟩
set_option maxHeartbeats 2000000 in
theorem c167 {w0 : World} {S : Nat → Prop} {p most long : Nat} (t : T) : WEnc w0 S p most long 167 (.st .output) t := by
 intro cs hr s O w hw hu
 obtain ⟨l, rfl, hlen, hF⟩ := hr.st_inv
 obtain ⟨t0, l, rfl, r0, hF⟩ := hF.cons_inv
 obtain ⟨t1, l, rfl, r1, hF⟩ := hF.cons_inv
 obtain ⟨t2, l, rfl, r2, hF⟩ := hF.cons_inv
 obtain ⟨t3, l, rfl, r3, hF⟩ := hF.cons_inv
 obtain ⟨t4, l, rfl, r4, hF⟩ := hF.cons_inv
 obtain rfl := hF.nil_inv
 simp only [Nat.reduceAdd, Ty.size] at r0 r1 r2 r3 r4
 obtain ⟨x0, rfl, e0, i0⟩ := r0.str_inv
 obtain ⟨x1, rfl, e1, i1⟩ := r1.str_inv
 obtain ⟨b2, rfl, e2⟩ := r2.bool_inv
 obtain ⟨b3, rfl, e3⟩ := r3.bool_inv
 obtain ⟨v4, e4⟩ := one_cell r4 rfl
 rw [e4] at r4
 obtain ⟨l4, rfl, _⟩ := r4.list_inv
 rw [T.wt_agg] at hu
 refine cW 25 Tryz.func167 rfl rfl rfl ?_
 refine W.sq (W.rg (WL.box rfl rfl (WL.kp [(0, ptr p), (3, ptr w.heap.size)] ⟨rfl, rfl, trivial⟩ ?_)))
 have hb := hw.own_new cs 157
 have hw1 := hw.alloc (.cells cs.toArray 157)
 have fb : Fr O w O (w.alloc (.cells cs.toArray 157)) := Fr.alloc _ _ _
 show W _ _ _ _ _ _ (w.alloc (.cells cs.toArray 157))
 generalize w.alloc (.cells cs.toArray 157) = w1 at hb hw1 fb ⊢
 have P0 : Step w0 S p most long [] [.str x0, .str x1, .bool b2, .bool b3, .list l4] s O w s O w1 := ⟨hw1, fb, rfl, by omega, rfl⟩
 refine W.sq (W.rg (WL.mv rfl rfl (WL.fa rfl (fld157_0 _ _ _) rfl (WL.ld rfl (load1 iy9 (hb.cell1 e0)) rfl (WL.cl Tryz.call151 rfl rfl (e151 i0 _ _ _ P0.st P0.hd1) ?_ (fun _ _ h => by obtain ⟨_, h, _⟩ := h; simp only [enc] at h; cases h))))))
 rintro _ w' ⟨rfl, s', O', hs, f, hw'⟩
 have P1 : Step w0 S p most long [.str x0] [.str x1, .bool b2, .bool b3, .list l4] s O w s' O' w' := P0.next hs f hw'
 replace hb := f.keep hb
 refine WL.kp [(0, ptr p), (3, ptr w.heap.size)] ⟨rfl, rfl, trivial⟩ ?_
 refine W.sq (W.rg (WL.mv rfl rfl (WL.fa rfl (fld157_1 _ _ _) rfl (WL.ld rfl (load1 iy9 (hb.cell1 e1)) rfl (WL.cl Tryz.call151 rfl rfl (e151 i1 _ _ _ P1.st P1.hd1) ?_ (fun _ _ h => by obtain ⟨_, h, _⟩ := h; simp only [enc] at h; cases h))))))
 rintro _ w' ⟨rfl, s', O', hs, f, hw'⟩
 have P2 : Step w0 S p most long [.str x0, .str x1] [.bool b2, .bool b3, .list l4] s O w s' O' w' := P1.next hs f hw'
 replace hb := f.keep hb
 refine WL.kp [(0, ptr p), (3, ptr w.heap.size)] ⟨rfl, rfl, trivial⟩ ?_
 refine W.sq (W.rg (WL.mv rfl rfl (WL.fa rfl (fld157_2 _ _ _) rfl (WL.ld rfl (load1 iy4 (hb.cell1 e2)) rfl (WL.fa rfl (fld157_3 _ _ _) rfl (WL.ld rfl (load1 iy4 (hb.cell1 e3)) rfl (WL.buildSlice rfl (slice_lit2 Tryz.underlying349 ty4 Tryz.zeroValue4 rfl rfl rfl) rfl ?_)))))))
 refine WL.cl Tryz.call206 rfl rfl (c206 (ns := [b2, b3]) (P2.st.alloc _) (Step.hdb (ns := [b2, b3]) P2) (P2.st.own_new _ 4)) ?_ nop
 rintro _ w' ⟨rfl, O', f, hw'⟩
 replace f := (Fr.alloc _ _ _).trans f
 have P3 : Step w0 S p most long [.str x0, .str x1, .bool b2, .bool b3] [.list l4] s O w _ O' w' := P2.bools (ns := [b2, b3]) f hw'
 replace hb := f.keep hb
 refine WL.kp [(0, ptr p), (3, ptr w.heap.size)] ⟨rfl, rfl, trivial⟩ ?_
 refine W.rg (WL.mv rfl rfl (WL.fa rfl (fld157_4 _ _ _) rfl (WL.ld rfl (load1 iy44 (hb.cell1 e4)) rfl (WL.mv rfl rfl (WL.makeFunc rfl rfl rfl (WL.cl Tryz.call210 rfl rfl (c210 (fun t _ => w151 t) _ r4 _ _ _ P3.st P3.hdl) ?_ (fun ch w' h a ha => pP ha (P3.pan h (fun e => (enc_flat rfl).trans e)))))))))
 rintro _ w' ⟨rfl, s', O', hs, f, hw'⟩
 have P4 : Step w0 S p most long [.str x0, .str x1, .bool b2, .bool b3, .list l4] [] s O w s' O' w' := P3.next hs f hw'
 replace hb := f.keep hb
 exact WL.nil fun a ha => post_end0 rfl ha ⟨rfl, _, _, (enc_flat rfl).trans P4.en, P4.fr, P4.st⟩
set_option maxHeartbeats 2000000 in
theorem c220 {w0 : World} {S : Nat → Prop} {p most long : Nat} (t : T) : WEnc w0 S p most long 220 (.st .swap) t := by
 intro cs hr s O w hw hu
 obtain ⟨l, rfl, hlen, hF⟩ := hr.st_inv
 obtain ⟨t0, l, rfl, r0, hF⟩ := hF.cons_inv
 obtain ⟨t1, l, rfl, r1, hF⟩ := hF.cons_inv
 obtain rfl := hF.nil_inv
 simp only [Nat.reduceAdd, Ty.size] at r0 r1
 obtain ⟨n0, rfl, e0, i0⟩ := r0.int_inv
 obtain ⟨x1, rfl, e1, i1⟩ := r1.str_inv
 rw [T.wt_agg] at hu
 refine cW 12 Tryz.func220 rfl rfl rfl ?_
 refine W.sq (W.rg (WL.box rfl rfl (WL.kp [(0, ptr p), (3, ptr w.heap.size)] ⟨rfl, rfl, trivial⟩ ?_)))
 have hb := hw.own_new cs 170
 have hw1 := hw.alloc (.cells cs.toArray 170)
 have fb : Fr O w O (w.alloc (.cells cs.toArray 170)) := Fr.alloc _ _ _
 show W _ _ _ _ _ _ (w.alloc (.cells cs.toArray 170))
 generalize w.alloc (.cells cs.toArray 170) = w1 at hb hw1 fb ⊢
 have P0 : Step w0 S p most long [] [.int n0, .str x1] s O w s O w1 := ⟨hw1, fb, rfl, by omega, rfl⟩
 refine W.sq (W.rg (WL.mv rfl rfl (WL.fa rfl (fld170_0 _ _ _) rfl (WL.ld rfl (load1 iy3 (hb.cell1 e0)) rfl (WL.cl Tryz.call218 rfl rfl (e218 i0 _ _ _ P0.st P0.hd1) ?_ (fun _ _ h => by obtain ⟨_, h, _⟩ := h; simp only [enc] at h; cases h))))))
 rintro _ w' ⟨rfl, s', O', hs, f, hw'⟩
 have P1 : Step w0 S p most long [.int n0] [.str x1] s O w s' O' w' := P0.next hs f hw'
 replace hb := f.keep hb
 refine WL.kp [(0, ptr p), (3, ptr w.heap.size)] ⟨rfl, rfl, trivial⟩ ?_
 refine W.rg (WL.mv rfl rfl (WL.fa rfl (fld170_1 _ _ _) rfl (WL.ld rfl (load1 iy9 (hb.cell1 e1)) rfl (WL.cl Tryz.call151 rfl rfl (e151 i1 _ _ _ P1.st P1.hd1) ?_ (fun _ _ h => by obtain ⟨_, h, _⟩ := h; simp only [enc] at h; cases h)))))
 rintro _ w' ⟨rfl, s', O', hs, f, hw'⟩
 have P2 : Step w0 S p most long [.int n0, .str x1] [] s O w s' O' w' := P1.next hs f hw'
 replace hb := f.keep hb
 exact WL.nil fun a ha => post_end0 rfl ha ⟨rfl, _, _, (enc_flat rfl).trans P2.en, P2.fr, P2.st⟩
set_option maxHeartbeats 2000000 in
theorem c169 {w0 : World} {S : Nat → Prop} {p most long : Nat} (t : T) : WEnc w0 S p most long 169 (.st .charMap) t := by
 intro cs hr s O w hw hu
 obtain ⟨l, rfl, hlen, hF⟩ := hr.st_inv
 obtain ⟨t0, l, rfl, r0, hF⟩ := hF.cons_inv
 obtain ⟨t1, l, rfl, r1, hF⟩ := hF.cons_inv
 obtain rfl := hF.nil_inv
 simp only [Nat.reduceAdd, Ty.size] at r0 r1
 obtain ⟨x0, rfl, e0, i0⟩ := r0.str_inv
 obtain ⟨v1, e1⟩ := one_cell r1 rfl
 rw [e1] at r1
 obtain ⟨l1, rfl, _⟩ := r1.list_inv
 rw [T.wt_agg] at hu
 refine cW 14 Tryz.func169 rfl rfl rfl ?_
 refine W.sq (W.rg (WL.box rfl rfl (WL.kp [(0, ptr p), (3, ptr w.heap.size)] ⟨rfl, rfl, trivial⟩ ?_)))
 have hb := hw.own_new cs 162
 have hw1 := hw.alloc (.cells cs.toArray 162)
 have fb : Fr O w O (w.alloc (.cells cs.toArray 162)) := Fr.alloc _ _ _
 show W _ _ _ _ _ _ (w.alloc (.cells cs.toArray 162))
 generalize w.alloc (.cells cs.toArray 162) = w1 at hb hw1 fb ⊢
 have P0 : Step w0 S p most long [] [.str x0, .list l1] s O w s O w1 := ⟨hw1, fb, rfl, by omega, rfl⟩
 refine W.sq (W.rg (WL.mv rfl rfl (WL.fa rfl (fld162_0 _ _ _) rfl (WL.ld rfl (load1 iy9 (hb.cell1 e0)) rfl (WL.cl Tryz.call151 rfl rfl (e151 i0 _ _ _ P0.st P0.hd1) ?_ (fun _ _ h => by obtain ⟨_, h, _⟩ := h; simp only [enc] at h; cases h))))))
 rintro _ w' ⟨rfl, s', O', hs, f, hw'⟩
 have P1 : Step w0 S p most long [.str x0] [.list l1] s O w s' O' w' := P0.next hs f hw'
 replace hb := f.keep hb
 refine WL.kp [(0, ptr p), (3, ptr w.heap.size)] ⟨rfl, rfl, trivial⟩ ?_
 refine W.rg (WL.mv rfl rfl (WL.fa rfl (fld162_1 _ _ _) rfl (WL.ld rfl (load1 iy160 (hb.cell1 e1)) rfl (WL.mv rfl rfl (WL.makeFunc rfl rfl rfl (WL.cl Tryz.call219 rfl rfl (c219 (fun t _ => c220 t) _ r1 _ _ _ P1.st P1.hdl) ?_ (fun ch w' h a ha => pP ha (P1.pan h (fun e => (enc_flat rfl).trans e)))))))))
 rintro _ w' ⟨rfl, s', O', hs, f, hw'⟩
 have P2 : Step w0 S p most long [.str x0, .list l1] [] s O w s' O' w' := P1.next hs f hw'
 replace hb := f.keep hb
 exact WL.nil fun a ha => post_end0 rfl ha ⟨rfl, _, _, (enc_flat rfl).trans P2.en, P2.fr, P2.st⟩
end Go.Sx
namespace Go.Sx
open Go.Proofs
theorem guard_ptr {P : Program} {w : World} {op : BinOp} {t : TypeId} {x y : Operand} {a b : Option Addr} : (eqGuard op t x y (.pointer a) (.pointer b)).run P w = .ok () w := by
 unfold eqGuard; cases op <;> rfl
theorem equalIn_ptr {P : Program} {w : World} {t e : TypeId} {a : Option Addr} {d : Nat} (ht : ∀ w, (underlying t).run P w = .ok (.pointer e) w) :
 (Op.equalIn (d + 1) t (.pointer a) (.pointer none)).run P w = .ok a.isNone w := by
 cases a <;> simp [Op.equalIn, ht]
theorem run_neq_ptr {P : Program} {w : World} {t e : TypeId} {a : Option Addr} (ht : ∀ w, (underlying t).run P w = .ok (.pointer e) w) :
 (binOp .neq t (.pointer a) (.pointer none)).run P w = .ok (.bool (!a.isNone)) w := by
 have h1 : binOp .neq t (.pointer a) (.pointer none) = (do pure (.bool (!(← Op.equal t (.pointer a) (.pointer none))))) := rfl
 have h2 : (Op.equal t (.pointer a) (.pointer none)).run P w = .ok a.isNone w := equalIn_ptr (d := 9999) ht
 rw [h1]
 simp only [Sem.run_bind, h2, Result.andThen_ok, Sem.run_pure]
theorem neq_nil_none {w : World} : (binOp .neq 46 (.pointer none) (.pointer none)).run Tryz.prog w = .ok (.bool false) w := run_neq_ptr Tryz.runUnderlying46
theorem neq_nil_some {w : World} {b o : Nat} : (binOp .neq 46 (.pointer (some ⟨b, o, none⟩)) (.pointer none)).run Tryz.prog w = .ok (.bool true) w := run_neq_ptr Tryz.runUnderlying46
set_option maxHeartbeats 1000000 in
theorem c153 {w0 : World} {S : Nat → Prop} {p most long : Nat} {N : Nat} (ih : ∀ t', t'.wt < N → WEnc w0 S p most long 96 (.st .sheet) t') (t : T) (hN : t.wt ≤ N) : WEnc w0 S p most long 153 (.st .use) t := by
 intro cs hr s O w hw hu
 obtain ⟨l, rfl, hlen, hF⟩ := hr.st_inv
 obtain ⟨t0, l, rfl, r0, hF⟩ := hF.cons_inv
 obtain ⟨t1, l, rfl, r1, hF⟩ := hF.cons_inv
 obtain ⟨t2, l, rfl, r2, hF⟩ := hF.cons_inv
 obtain ⟨t3, l, rfl, r3, hF⟩ := hF.cons_inv
 obtain rfl := hF.nil_inv
 simp only [Nat.reduceAdd, Ty.size] at r0 r1 r2 r3
 obtain ⟨x0, rfl, e0, i0⟩ := r0.str_inv
 obtain ⟨n2, rfl, e2, i2⟩ := r2.int_inv
 obtain ⟨n3, rfl, e3, i3⟩ := r3.int_inv
 rw [T.wt_agg] at hu
 refine cW 30 Tryz.func153 rfl rfl rfl ?_
 refine W.sq (W.rg (WL.box rfl rfl (WL.kp [(0, ptr p), (3, ptr w.heap.size)] ⟨rfl, rfl, trivial⟩ ?_)))
 have hb := hw.own_new cs 48
 have hw1 := hw.alloc (.cells cs.toArray 48)
 have fb : Fr O w O (w.alloc (.cells cs.toArray 48)) := Fr.alloc _ _ _
 show W _ _ _ _ _ _ (w.alloc (.cells cs.toArray 48))
 generalize w.alloc (.cells cs.toArray 48) = w1 at hb hw1 fb ⊢
 have P0 : Step w0 S p most long [] [.str x0, t1, .int n2, .int n3] s O w s O w1 := ⟨hw1, fb, rfl, by omega, rfl⟩
 refine W.sq (W.rg (WL.mv rfl rfl (WL.fa rfl (fld48_0 _ _ _) rfl (WL.ld rfl (load1 iy9 (hb.cell1 e0)) rfl (WL.cl Tryz.call151 rfl rfl (e151 i0 _ _ _ P0.st P0.hd1) ?_ (fun _ _ h => by obtain ⟨_, h, _⟩ := h; simp only [enc] at h; cases h))))))
 rintro _ w' ⟨rfl, s', O', hs, f, hw'⟩
 have P1 : Step w0 S p most long [.str x0] [t1, .int n2, .int n3] s O w s' O' w' := P0.next hs f hw'
 replace hb := f.keep hb
 refine WL.kp [(0, ptr p), (3, ptr w.heap.size)] ⟨rfl, rfl, trivial⟩ ?_
 rcases r1.ptr_inv with ⟨rfl, e1⟩ | ⟨t', b, o, dd, rfl, e1, hS, hbl, hat, hlen', hrep⟩
 · refine W.sq (W.rg (WL.mv rfl rfl (WL.fa rfl (fld48_1 _ _ _) rfl (WL.ld rfl (load1 iy46 (hb.cell1 e1)) rfl (WL.binAny rfl rfl guard_ptr neq_nil_none rfl (WL.buildSlice rfl (slice_lit1 Tryz.underlying349 ty4 Tryz.zeroValue4 rfl rfl) rfl ?_))))))
   refine WL.cl Tryz.call206 rfl rfl (c206 (ns := [false]) (P1.st.alloc _) P1.hd1 (P1.st.own_new _ 4)) ?_ nop
   rintro _ w2 ⟨rfl, O2, f2, hw2⟩
   replace f2 := (Fr.alloc _ _ _).trans f2
   have P2 : Step w0 S p most long [.str x0, .nil] [.int n2, .int n3] s O w _ O2 w2 := P1.next (s2 := s'.num 0) (by simp only [enc]) f2 hw2
   replace hb := f2.keep hb
   refine WL.kp [(0, ptr p), (3, ptr w.heap.size)] ⟨rfl, rfl, trivial⟩ ?_
   refine W.sq (W.sq (W.rg (WL.fa rfl (fld48_1 _ _ _) rfl (WL.ld rfl (load1 iy46 (hb.cell1 e1)) rfl (WL.binAny rfl rfl guard_ptr neq_nil_none rfl (WL.nx (W.cond_false rfl (W.skip fun a ha => tN ?_))))))))
   refine W.run ha (W.rg (WL.mv rfl rfl (WL.fa rfl (fld48_2 _ _ _) rfl (WL.ld rfl (load1 iy3 (hb.cell1 e2)) rfl (WL.fa rfl (fld48_3 _ _ _) rfl (WL.ld rfl (load1 iy3 (hb.cell1 e3)) rfl (WL.buildSlice rfl (slice_lit2 Tryz.underlying262 ty3 Tryz.zeroValue3 rfl rfl rfl) rfl ?_)))))))
   refine WL.cl Tryz.call207 rfl rfl (c207 (ns := [n2, n3]) (ints2 i2 i3) (P2.st.alloc _) (Step.hdi (ns := [n2, n3]) P2) (P2.st.own_new _ 3)) ?_ nop
   rintro _ w3 ⟨rfl, O3, f3, hw3⟩
   replace f3 := (Fr.alloc _ _ _).trans f3
   have P3 : Step w0 S p most long [.str x0, .nil, .int n2, .int n3] [] s O w _ O3 w3 := P2.ints (ns := [n2, n3]) f3 hw3
   exact WL.nil fun a ha => post_end0 rfl ha ⟨rfl, _, _, (enc_flat rfl).trans P3.en, P3.fr, P3.st⟩
 · refine W.sq (W.rg (WL.mv rfl rfl (WL.fa rfl (fld48_1 _ _ _) rfl (WL.ld rfl (load1 iy46 (hb.cell1 e1)) rfl (WL.binAny rfl rfl guard_ptr neq_nil_some rfl (WL.buildSlice rfl (slice_lit1 Tryz.underlying349 ty4 Tryz.zeroValue4 rfl rfl) rfl ?_))))))
   refine WL.cl Tryz.call206 rfl rfl (c206 (ns := [true]) (P1.st.alloc _) P1.hd1 (P1.st.own_new _ 4)) ?_ nop
   rintro _ w2 ⟨rfl, O2, f2, hw2⟩
   replace f2 := (Fr.alloc _ _ _).trans f2
   replace hb := f2.keep hb
   have hus := WS.num_use (s := s') (n := 1) (by decide)
   have hhd := P1.hd
   rw [T.wt_ptr] at hhd
   refine WL.kp [(0, ptr p), (3, ptr w.heap.size)] ⟨rfl, rfl, trivial⟩ ?_
   refine W.sq (W.sq (W.rg (WL.fa rfl (fld48_1 _ _ _) rfl (WL.ld rfl (load1 iy46 (hb.cell1 e1)) rfl (WL.binAny rfl rfl guard_ptr neq_nil_some rfl (WL.nx (W.ct rfl ?_)))))))
   refine W.rg (WL.mv rfl rfl (WL.fa rfl (fld48_1 _ _ _) rfl (WL.ld rfl (load1 iy46 (hb.cell1 e1)) rfl (WL.nc rfl rfl (WL.ld rfl (loadN iy36 hlen' (At.input hw2 hS hbl hat)) rfl (WL.cl Tryz.call96 rfl rfl (ih t' (Nat.lt_of_lt_of_le (by rw [T.wt_ptr]; omega) (Nat.le_of_lt (wt_in hN (i := 1) rfl))) _ hrep _ _ _ hw2 (by show (s'.num 1).use + _ ≤ _; omega)) ?_ ?_))))))
   · rintro _ w3 ⟨rfl, s3, O3, hs3, f3, hw3⟩
     have P2 : Step w0 S p most long [.str x0, .ptr t'] [.int n2, .int n3] s O w s3 O3 w3 := P1.next (by simp only [enc]; exact hs3) (f2.trans f3) hw3
     replace hb := f3.keep hb
     refine WL.nil fun a ha => tN ?_
     refine W.run ha (W.rg (WL.mv rfl rfl (WL.fa rfl (fld48_2 _ _ _) rfl (WL.ld rfl (load1 iy3 (hb.cell1 e2)) rfl (WL.fa rfl (fld48_3 _ _ _) rfl (WL.ld rfl (load1 iy3 (hb.cell1 e3)) rfl (WL.buildSlice rfl (slice_lit2 Tryz.underlying262 ty3 Tryz.zeroValue3 rfl rfl rfl) rfl ?_)))))))
     refine WL.cl Tryz.call207 rfl rfl (c207 (ns := [n2, n3]) (ints2 i2 i3) (P2.st.alloc _) (Step.hdi (ns := [n2, n3]) P2) (P2.st.own_new _ 3)) ?_ nop
     rintro _ w4 ⟨rfl, O4, f4, hw4⟩
     replace f4 := (Fr.alloc _ _ _).trans f4
     have P3 : Step w0 S p most long [.str x0, .ptr t', .int n2, .int n3] [] s O w _ O4 w4 := P2.ints (ns := [n2, n3]) f4 hw4
     exact WL.nil fun a ha => post_end0 rfl ha ⟨rfl, _, _, (enc_flat rfl).trans P3.en, P3.fr, P3.st⟩
   · rintro ch w3 ⟨rfl, h1, s3, O3, f3, hw3, hn1, hn2⟩ a ha
     have hp : WPan w0 S p most long O' w' (enc most long (.ptr t') s') s'.nest failedP w3 := ⟨rfl, by simp only [enc]; exact h1, s3, O3, f2.trans f3, hw3, hn1, hn2⟩
     exact tP (pP ha (P1.pan hp (fun e => (enc_flat rfl).trans e)))
end Go.Sx
namespace Go.Sx
open Go.Proofs
set_option maxHeartbeats 2000000 in
theorem c96 {w0 : World} {S : Nat → Prop} {p most long : Nat} {N : Nat} (ih : ∀ t', t'.wt < N → WEnc w0 S p most long 96 (.st .sheet) t') (t : T) (hN : t.wt ≤ N) : WEnc w0 S p most long 96 (.st .sheet) t := by
 intro cs hr s O w hw hu
 obtain ⟨l, rfl, hlen, hF⟩ := hr.st_inv
 obtain ⟨t0, l, rfl, r0, hF⟩ := hF.cons_inv
 obtain ⟨t1, l, rfl, r1, hF⟩ := hF.cons_inv
 obtain ⟨t2, l, rfl, r2, hF⟩ := hF.cons_inv
 obtain ⟨t3, l, rfl, r3, hF⟩ := hF.cons_inv
 obtain ⟨t4, l, rfl, r4, hF⟩ := hF.cons_inv
 obtain ⟨t5, l, rfl, r5, hF⟩ := hF.cons_inv
 obtain ⟨t6, l, rfl, r6, hF⟩ := hF.cons_inv
 obtain ⟨t7, l, rfl, r7, hF⟩ := hF.cons_inv
 obtain ⟨t8, l, rfl, r8, hF⟩ := hF.cons_inv
 obtain ⟨t9, l, rfl, r9, hF⟩ := hF.cons_inv
 obtain rfl := hF.nil_inv
 simp only [Nat.reduceAdd, Ty.size] at r0 r1 r2 r3 r4 r5 r6 r7 r8 r9
 obtain ⟨x0, rfl, e0, i0⟩ := r0.str_inv
 obtain ⟨v1, e1⟩ := one_cell r1 rfl
 rw [e1] at r1
 obtain ⟨l1, rfl, _⟩ := r1.list_inv
 obtain ⟨v2, e2⟩ := one_cell r2 rfl
 rw [e2] at r2
 obtain ⟨l2, rfl, _⟩ := r2.list_inv
 obtain ⟨v3, e3⟩ := one_cell r3 rfl
 rw [e3] at r3
 obtain ⟨l3, rfl, _⟩ := r3.list_inv
 obtain ⟨v4, e4⟩ := one_cell r4 rfl
 rw [e4] at r4
 obtain ⟨l4, rfl, _⟩ := r4.list_inv
 obtain ⟨v5, e5⟩ := one_cell r5 rfl
 rw [e5] at r5
 obtain ⟨l5, rfl, _⟩ := r5.list_inv
 obtain ⟨v6, e6⟩ := one_cell r6 rfl
 rw [e6] at r6
 obtain ⟨l6, rfl, _⟩ := r6.list_inv
 obtain ⟨v7, e7⟩ := one_cell r7 rfl
 rw [e7] at r7
 obtain ⟨l7, rfl, _⟩ := r7.list_inv
 obtain ⟨v8, e8⟩ := one_cell r8 rfl
 rw [e8] at r8
 obtain ⟨l8, rfl, _⟩ := r8.list_inv
 obtain ⟨v9, e9⟩ := one_cell r9 rfl
 rw [e9] at r9
 obtain ⟨l9, rfl, _⟩ := r9.list_inv
 rw [T.wt_agg] at hu
 refine calls_WD 64 Tryz.func96 rfl rfl rfl ?_
 refine W.sq (W.rg (WL.box rfl rfl (WL.kp [(0, ptr p), (3, ptr w.heap.size)] ⟨rfl, rfl, trivial⟩ ?_)))
 have hb := hw.own_new cs 36
 have hw1 := hw.alloc (.cells cs.toArray 36)
 have fb : Fr O w O (w.alloc (.cells cs.toArray 36)) := Fr.alloc _ _ _
 show W _ _ _ _ _ _ (w.alloc (.cells cs.toArray 36))
 generalize w.alloc (.cells cs.toArray 36) = w1 at hb hw1 fb ⊢
 refine W.sq (W.rg (WL.mv rfl rfl (WL.cl Tryz.call150 rfl rfl (c150 hw1 (by omega)) ?_ ?_)))
 rotate_left
 · rintro ch w2 ⟨rfl, ho, O2, f2, hw2⟩ a ha
   exact tP (post_panD0 ha ⟨rfl, enc_deep_out rfl ho, _, O2, fb.trans f2, hw2, Nat.lt_succ_self _, by show s.nest + 1 ≤ _; simp only [WS.use] at hu; omega⟩)
 rintro _ w2 ⟨hno, bx, O2, rfl, hx, _, f2, hw2⟩
 replace hb := f2.keep hb
 refine WL.defer rfl (WL.kp [(0, ptr p), (3, ptr w.heap.size)] ⟨rfl, rfl, trivial⟩ ?_)
 have hu0 : ({ s with nest := s.nest + 1 } : WS).use = s.use + 1 := by simp only [WS.use]; omega
 have P0 : Step w0 S p most long [] [.str x0, .list l1, .list l2, .list l3, .list l4, .list l5, .list l6, .list l7, .list l8, .list l9] { s with nest := s.nest + 1 } O w { s with nest := s.nest + 1 } O2 w2 := ⟨hw2, fb.trans f2, rfl, by rw [hu0]; omega, rfl⟩
 refine W.sq (W.rg (WL.mv rfl rfl (WL.fa rfl (fld36_0 _ _ _) rfl (WL.ld rfl (load1 iy9 (hb.cell1 e0)) rfl (WL.cl Tryz.call151 rfl rfl (e151 i0 _ _ _ P0.st P0.hd1) ?_ (fun _ _ h => by obtain ⟨_, h, _⟩ := h; simp only [enc] at h; cases h))))))
 rintro _ w' ⟨rfl, s', O', hs, f, hw'⟩
 have P1 : Step w0 S p most long [.str x0] [.list l1, .list l2, .list l3, .list l4, .list l5, .list l6, .list l7, .list l8, .list l9] { s with nest := s.nest + 1 } O w s' O' w' := P0.next hs f hw'
 replace hb := f.keep hb
 replace hx := f.keep hx
 refine WL.kp [(0, ptr p), (3, ptr w.heap.size)] ⟨rfl, rfl, trivial⟩ ?_
 refine W.sq (W.rg (WL.mv rfl rfl (WL.fa rfl (fld36_1 _ _ _) rfl (WL.ld rfl (load1 iy26 (hb.cell1 e1)) rfl (WL.mv rfl rfl (WL.makeFunc rfl rfl rfl (WL.cl Tryz.call152 rfl rfl (c152 (fun t' ht => c153 ih t' (Nat.le_of_lt (wt_in_list hN (i := 1) rfl ht))) _ r1 _ _ _ P1.st P1.hdl) ?_ (fun ch w' h a ha => tP (post_panD ha (P1.panD hx rfl h rfl))))))))))
 rintro _ w' ⟨rfl, s', O', hs, f, hw'⟩
 have P2 : Step w0 S p most long [.str x0, .list l1] [.list l2, .list l3, .list l4, .list l5, .list l6, .list l7, .list l8, .list l9] { s with nest := s.nest + 1 } O w s' O' w' := P1.next hs f hw'
 replace hb := f.keep hb
 replace hx := f.keep hx
 refine WL.kp [(0, ptr p), (3, ptr w.heap.size)] ⟨rfl, rfl, trivial⟩ ?_
 refine W.sq (W.rg (WL.mv rfl rfl (WL.fa rfl (fld36_2 _ _ _) rfl (WL.ld rfl (load1 iy27 (hb.cell1 e2)) rfl (WL.mv rfl rfl (WL.makeFunc rfl rfl rfl (WL.cl Tryz.call154 rfl rfl (c154 (fun t _ => c155 t) _ r2 _ _ _ P2.st P2.hdl) ?_ (fun ch w' h a ha => tP (post_panD ha (P2.panD hx rfl h rfl))))))))))
 rintro _ w' ⟨rfl, s', O', hs, f, hw'⟩
 have P3 : Step w0 S p most long [.str x0, .list l1, .list l2] [.list l3, .list l4, .list l5, .list l6, .list l7, .list l8, .list l9] { s with nest := s.nest + 1 } O w s' O' w' := P2.next hs f hw'
 replace hb := f.keep hb
 replace hx := f.keep hx
 refine WL.kp [(0, ptr p), (3, ptr w.heap.size)] ⟨rfl, rfl, trivial⟩ ?_
 refine W.sq (W.rg (WL.mv rfl rfl (WL.fa rfl (fld36_3 _ _ _) rfl (WL.ld rfl (load1 iy28 (hb.cell1 e3)) rfl (WL.mv rfl rfl (WL.makeFunc rfl rfl rfl (WL.cl Tryz.call156 rfl rfl (c156 (fun t _ => c157 t) _ r3 _ _ _ P3.st P3.hdl) ?_ (fun ch w' h a ha => tP (post_panD ha (P3.panD hx rfl h rfl))))))))))
 rintro _ w' ⟨rfl, s', O', hs, f, hw'⟩
 have P4 : Step w0 S p most long [.str x0, .list l1, .list l2, .list l3] [.list l4, .list l5, .list l6, .list l7, .list l8, .list l9] { s with nest := s.nest + 1 } O w s' O' w' := P3.next hs f hw'
 replace hb := f.keep hb
 replace hx := f.keep hx
 refine WL.kp [(0, ptr p), (3, ptr w.heap.size)] ⟨rfl, rfl, trivial⟩ ?_
 refine W.sq (W.rg (WL.mv rfl rfl (WL.fa rfl (fld36_4 _ _ _) rfl (WL.ld rfl (load1 iy29 (hb.cell1 e4)) rfl (WL.mv rfl rfl (WL.makeFunc rfl rfl rfl (WL.cl Tryz.call158 rfl rfl (c158 (fun t _ => c159 t) _ r4 _ _ _ P4.st P4.hdl) ?_ (fun ch w' h a ha => tP (post_panD ha (P4.panD hx rfl h rfl))))))))))
 rintro _ w' ⟨rfl, s', O', hs, f, hw'⟩
 have P5 : Step w0 S p most long [.str x0, .list l1, .list l2, .list l3, .list l4] [.list l5, .list l6, .list l7, .list l8, .list l9] { s with nest := s.nest + 1 } O w s' O' w' := P4.next hs f hw'
 replace hb := f.keep hb
 replace hx := f.keep hx
 refine WL.kp [(0, ptr p), (3, ptr w.heap.size)] ⟨rfl, rfl, trivial⟩ ?_
 refine W.sq (W.rg (WL.mv rfl rfl (WL.fa rfl (fld36_5 _ _ _) rfl (WL.ld rfl (load1 iy30 (hb.cell1 e5)) rfl (WL.mv rfl rfl (WL.makeFunc rfl rfl rfl (WL.cl Tryz.call160 rfl rfl (c160 (fun t _ => c161 t) _ r5 _ _ _ P5.st P5.hdl) ?_ (fun ch w' h a ha => tP (post_panD ha (P5.panD hx rfl h rfl))))))))))
 rintro _ w' ⟨rfl, s', O', hs, f, hw'⟩
 have P6 : Step w0 S p most long [.str x0, .list l1, .list l2, .list l3, .list l4, .list l5] [.list l6, .list l7, .list l8, .list l9] { s with nest := s.nest + 1 } O w s' O' w' := P5.next hs f hw'
 replace hb := f.keep hb
 replace hx := f.keep hx
 refine WL.kp [(0, ptr p), (3, ptr w.heap.size)] ⟨rfl, rfl, trivial⟩ ?_
 refine W.sq (W.rg (WL.mv rfl rfl (WL.fa rfl (fld36_6 _ _ _) rfl (WL.ld rfl (load1 iy31 (hb.cell1 e6)) rfl (WL.mv rfl rfl (WL.makeFunc rfl rfl rfl (WL.cl Tryz.call162 rfl rfl (c162 (fun t _ => c163 t) _ r6 _ _ _ P6.st P6.hdl) ?_ (fun ch w' h a ha => tP (post_panD ha (P6.panD hx rfl h rfl))))))))))
 rintro _ w' ⟨rfl, s', O', hs, f, hw'⟩
 have P7 : Step w0 S p most long [.str x0, .list l1, .list l2, .list l3, .list l4, .list l5, .list l6] [.list l7, .list l8, .list l9] { s with nest := s.nest + 1 } O w s' O' w' := P6.next hs f hw'
 replace hb := f.keep hb
 replace hx := f.keep hx
 refine WL.kp [(0, ptr p), (3, ptr w.heap.size)] ⟨rfl, rfl, trivial⟩ ?_
 refine W.sq (W.rg (WL.mv rfl rfl (WL.fa rfl (fld36_7 _ _ _) rfl (WL.ld rfl (load1 iy32 (hb.cell1 e7)) rfl (WL.mv rfl rfl (WL.makeFunc rfl rfl rfl (WL.cl Tryz.call164 rfl rfl (c164 (fun t _ => c165 t) _ r7 _ _ _ P7.st P7.hdl) ?_ (fun ch w' h a ha => tP (post_panD ha (P7.panD hx rfl h rfl))))))))))
 rintro _ w' ⟨rfl, s', O', hs, f, hw'⟩
 have P8 : Step w0 S p most long [.str x0, .list l1, .list l2, .list l3, .list l4, .list l5, .list l6, .list l7] [.list l8, .list l9] { s with nest := s.nest + 1 } O w s' O' w' := P7.next hs f hw'
 replace hb := f.keep hb
 replace hx := f.keep hx
 refine WL.kp [(0, ptr p), (3, ptr w.heap.size)] ⟨rfl, rfl, trivial⟩ ?_
 refine W.sq (W.rg (WL.mv rfl rfl (WL.fa rfl (fld36_8 _ _ _) rfl (WL.ld rfl (load1 iy33 (hb.cell1 e8)) rfl (WL.mv rfl rfl (WL.makeFunc rfl rfl rfl (WL.cl Tryz.call166 rfl rfl (c166 (fun t _ => c167 t) _ r8 _ _ _ P8.st P8.hdl) ?_ (fun ch w' h a ha => tP (post_panD ha (P8.panD hx rfl h rfl))))))))))
 rintro _ w' ⟨rfl, s', O', hs, f, hw'⟩
 have P9 : Step w0 S p most long [.str x0, .list l1, .list l2, .list l3, .list l4, .list l5, .list l6, .list l7, .list l8] [.list l9] { s with nest := s.nest + 1 } O w s' O' w' := P8.next hs f hw'
 replace hb := f.keep hb
 replace hx := f.keep hx
 refine WL.kp [(0, ptr p), (3, ptr w.heap.size)] ⟨rfl, rfl, trivial⟩ ?_
 refine W.rg (WL.mv rfl rfl (WL.fa rfl (fld36_9 _ _ _) rfl (WL.ld rfl (load1 iy34 (hb.cell1 e9)) rfl (WL.mv rfl rfl (WL.makeFunc rfl rfl rfl (WL.cl Tryz.call168 rfl rfl (c168 (fun t _ => c169 t) _ r9 _ _ _ P9.st P9.hdl) ?_ (fun ch w' h a ha => post_panD ha (P9.panD hx rfl h rfl))))))))
 rintro _ w' ⟨rfl, s', O', hs, f, hw'⟩
 have P10 : Step w0 S p most long [.str x0, .list l1, .list l2, .list l3, .list l4, .list l5, .list l6, .list l7, .list l8, .list l9] [] { s with nest := s.nest + 1 } O w s' O' w' := P9.next hs f hw'
 replace hb := f.keep hb
 replace hx := f.keep hx
 exact WL.nil fun a ha => post_endD ha (P10.endD rfl hx rfl hno rfl)
theorem wSheet {w0 : World} {S : Nat → Prop} {p most long : Nat} (t : T) : WEnc w0 S p most long 96 (.st .sheet) t := by
 have key : ∀ (N : Nat) (t : T), t.wt ≤ N → WEnc w0 S p most long 96 (.st .sheet) t := by
  intro N
  induction N with
  | zero => intro t h; have := t.wt_pos; omega
  | succ N ih => intro t h; exact c96 (N := N + 1) (fun t' h' => ih t' (by omega)) t h
 exact key _ t (Nat.le_refl _)
end Go.Sx
namespace Go.Sx
def poly : BitVec 32 := 0xEDB88320#32
def rnd (x : BitVec 32) : BitVec 32 := (x >>> 1) ^^^ (-(x &&& 1#32) &&& poly)
def rnds : Nat → BitVec 32 → BitVec 32
 | 0, x => x
 | n + 1, x => rnd (rnds n x)
def upd (r : BitVec 32) (c : UInt8) : BitVec 32 := rnds 8 (r ^^^ BitVec.ofNat 32 c.toNat)
def crcFrom (r : BitVec 32) : List UInt8 → BitVec 32
 | [] => r
 | c :: l => crcFrom (upd r c) l
def crc (l : List UInt8) : BitVec 32 := ~~~ crcFrom (BitVec.allOnes 32) l
theorem crcFrom_snoc : ∀ (l : List UInt8) (r : BitVec 32) (c : UInt8), crcFrom r (l ++ [c]) = upd (crcFrom r l) c
 | [], _, _ => rfl
 | d :: l, r, c => crcFrom_snoc l (upd r d) c
theorem bit_cases (x : BitVec 32) : x &&& 1#32 = 0#32 ∨ x &&& 1#32 = 1#32 := by
 have h : (x &&& 1#32).toNat = x.toNat % 2 := by simp [BitVec.toNat_and]
 rcases Nat.mod_two_eq_zero_or_one x.toNat with h1 | h1
 · left; apply BitVec.eq_of_toNat_eq; rw [h, h1]; rfl
 · right; apply BitVec.eq_of_toNat_eq; rw [h, h1]; rfl
theorem and_xor_distrib (x y z : BitVec 32) : (x ^^^ y) &&& z = (x &&& z) ^^^ (y &&& z) := by
 ext i hi
 simp only [BitVec.getElem_and, BitVec.getElem_xor]
 cases x[i] <;> cases y[i] <;> cases z[i] <;> rfl
theorem neg_xor_and (a b : BitVec 32) (ha : a = 0#32 ∨ a = 1#32) (hb : b = 0#32 ∨ b = 1#32) : (-(a ^^^ b) &&& poly) = (-a &&& poly) ^^^ (-b &&& poly) := by
 rcases ha with rfl | rfl <;> rcases hb with rfl | rfl <;> decide
theorem shr_xor (x y : BitVec 32) (n : Nat) : (x ^^^ y) >>> n = (x >>> n) ^^^ (y >>> n) := by
 ext i hi
 simp
theorem xor_4 (a b c d : BitVec 32) : (a ^^^ b) ^^^ (c ^^^ d) = (a ^^^ c) ^^^ (b ^^^ d) := by
 ext i hi
 simp only [BitVec.getElem_xor]
 cases a[i] <;> cases b[i] <;> cases c[i] <;> cases d[i] <;> rfl
theorem rnd_xor (x y : BitVec 32) : rnd (x ^^^ y) = rnd x ^^^ rnd y := by
 unfold rnd
 rw [shr_xor, and_xor_distrib, neg_xor_and _ _ (bit_cases x) (bit_cases y), xor_4]
theorem rnds_xor : ∀ (n : Nat) (x y : BitVec 32), rnds n (x ^^^ y) = rnds n x ^^^ rnds n y
 | 0, _, _ => rfl
 | n + 1, x, y => by simp only [rnds, rnds_xor n x y, rnd_xor]
theorem rnds_high : ∀ (n : Nat) (y : BitVec 32), n ≤ 32 → y.toNat % 2 ^ n = 0 → rnds n y = y >>> n
 | 0, y, _, _ => by simp [rnds]
 | n + 1, y, hn, h => by
  have h1 : y.toNat % 2 ^ n = 0 := by
   have hd : 2 ^ n ∣ 2 ^ (n + 1) := ⟨2, by rw [Nat.pow_succ]⟩
   have := Nat.mod_mod_of_dvd y.toNat hd
   rw [h] at this; simpa using this.symm
  rw [rnds, rnds_high n y (by omega) h1]
  have h2 : (y >>> n) &&& 1#32 = 0#32 := by
   apply BitVec.eq_of_toNat_eq
   simp only [BitVec.toNat_and, BitVec.toNat_ushiftRight]
   have : (y.toNat >>> n) % 2 = 0 := by
    rw [Nat.shiftRight_eq_div_pow]
    obtain ⟨k, hk⟩ := Nat.dvd_of_mod_eq_zero h
    rw [hk, Nat.pow_succ, Nat.mul_assoc, Nat.mul_div_cancel_left _ (Nat.two_pow_pos n)]
    omega
   simpa using this
  unfold rnd
  rw [h2]
  have h3 : (-(0#32) &&& poly) = 0#32 := by decide
  rw [h3, BitVec.xor_zero]
  exact (BitVec.shiftRight_add y n 1).symm
theorem rnds_table (x : BitVec 32) : rnds 8 x = rnds 8 (BitVec.ofNat 32 (x.toNat % 256)) ^^^ (x >>> 8) := by
 have hsplit : x = BitVec.ofNat 32 (x.toNat % 256) ^^^ (x &&& ~~~ 255#32) := by
  have h255 : BitVec.ofNat 32 (x.toNat % 256) = x &&& 255#32 := by
   apply BitVec.eq_of_toNat_eq
   simp only [BitVec.toNat_and, BitVec.toNat_ofNat]
   rw [show (255 : Nat) % 2 ^ 32 = 2 ^ 8 - 1 from rfl, Nat.and_two_pow_sub_one_eq_mod]
   omega
  rw [h255]
  ext i hi
  simp only [BitVec.getElem_xor, BitVec.getElem_and, BitVec.getElem_not]
  cases x[i] <;> cases (255#32)[i] <;> rfl
 have hz : (x &&& ~~~ 255#32).toNat % 2 ^ 8 = 0 := by
  rw [BitVec.toNat_and, ← Nat.and_two_pow_sub_one_eq_mod, Nat.and_assoc]
  have : (~~~ 255#32).toNat &&& (2 ^ 8 - 1) = 0 := by decide
  rw [this, Nat.and_zero]
 have hs : (x &&& ~~~ 255#32) >>> 8 = x >>> 8 := by
  have h0 : (BitVec.ofNat 32 (x.toNat % 256)) >>> 8 = 0#32 := by
   apply BitVec.eq_of_toNat_eq
   simp only [BitVec.toNat_ushiftRight, BitVec.toNat_ofNat, Nat.shiftRight_eq_div_pow]
   omega
  have := congrArg (fun z : BitVec 32 => z >>> 8) hsplit
  rw [shr_xor, h0, BitVec.zero_xor] at this
  exact this.symm
 calc rnds 8 x = rnds 8 (BitVec.ofNat 32 (x.toNat % 256) ^^^ (x &&& ~~~ 255#32)) := by rw [← hsplit]
  _ = rnds 8 (BitVec.ofNat 32 (x.toNat % 256)) ^^^ rnds 8 (x &&& ~~~ 255#32) := rnds_xor _ _ _
  _ = _ := by rw [rnds_high 8 _ (by omega) hz, hs]
def uv (x : BitVec 32) : Value := .int .u32 (x.toNat : Int)
section
variable {P : Program} {w : World} {t : TypeId} {x y : BitVec 32}
theorem ofInt_toNat (x : BitVec 32) : BitVec.ofInt 32 (x.toNat : Int) = x := by
 apply BitVec.eq_of_toNat_eq
 rw [BitVec.toNat_ofInt]
 have := x.isLt
 omega
theorem wrap_toNat (x : BitVec 32) : IntKind.u32.wrap (x.toNat : Int) = (x.toNat : Int) := by
 have := x.isLt
 exact wrap_u32 (by omega) (by omega)
theorem run_xor32 : (binOp .xor t (uv x) (uv y)).run P w = .ok (uv (x ^^^ y)) w := by
 show Result.ok (Value.int .u32 (IntKind.u32.wrap ((BitVec.ofInt 32 (x.toNat : Int) ^^^ BitVec.ofInt 32 (y.toNat : Int)).toNat : Nat))) w = _
 rw [ofInt_toNat, ofInt_toNat, wrap_toNat]; rfl
theorem run_and32 : (binOp .and t (uv x) (uv y)).run P w = .ok (uv (x &&& y)) w := by
 show Result.ok (Value.int .u32 (IntKind.u32.wrap ((BitVec.ofInt 32 (x.toNat : Int) &&& BitVec.ofInt 32 (y.toNat : Int)).toNat : Nat))) w = _
 rw [ofInt_toNat, ofInt_toNat, wrap_toNat]; rfl
theorem run_neg32 : (Op.unary .neg (uv x)).run P w = .ok (uv (-x)) w := by
 show Result.ok (Value.int .u32 (IntKind.u32.wrap (0 - (x.toNat : Int)))) w = _
 have h : IntKind.u32.wrap (0 - (x.toNat : Int)) = ((-x).toNat : Int) := by
  rw [BitVec.toNat_neg]
  have := x.isLt
  rw [show IntKind.u32.wrap (0 - (x.toNat : Int)) = (0 - (x.toNat : Int)) % 4294967296 by simp [IntKind.wrap, IntKind.bits, IntKind.signed]]
  omega
 rw [h]; rfl
theorem run_not32 : (Op.unary .xor (uv x)).run P w = .ok (uv (~~~ x)) w := by
 show Result.ok (Value.int .u32 (IntKind.u32.wrap ((BitVec.ofInt 32 4294967295 ^^^ BitVec.ofInt 32 (x.toNat : Int)).toNat : Nat))) w = _
 have h1 : BitVec.ofInt 32 4294967295 = BitVec.allOnes 32 := by decide
 rw [ofInt_toNat, h1, BitVec.allOnes_xor, wrap_toNat]; rfl
theorem run_shr32 {k' : IntKind} {d : Nat} {c : Int} (hc : c = (d : Int)) (hd : Nat.ble d 32 = true) : (binOp .shr t (uv x) (.int k' c)).run P w = .ok (uv (x >>> d)) w := by
 have := run_shr (P := P) (w := w) (t := t) (k := .u32) (k' := k') (n := x.toNat) (d := d) hc hd
 have e : (x >>> d).toNat = x.toNat / 2 ^ d := by rw [BitVec.toNat_ushiftRight, Nat.shiftRight_eq_div_pow]
 unfold uv
 rw [e]
 exact this
end
end Go.Sx
namespace Go.Sx
open Go.Proofs
def Bts (w : World) (v : Value) (bs : List UInt8) : Prop :=
 bs.length ≤ maxLen ∧ ((v = .slice none 0 0 ∧ bs = []) ∨ ∃ b o cap, v = .slice (some ⟨b, o, none⟩) bs.length cap ∧ b < w.heap.size ∧ At w b o (bs.map bv) ∧ bs.length ≤ cap)
theorem Bts.of_row {w : World} {v : Value} {bs : List UInt8} (h : w.ownsRow 0 5 1 v bs.length (bs.map bv)) : Bts w v bs := by
 rcases h.2 with ⟨rfl, h2⟩ | ⟨g, cap, cur, rfl, _, hg, hn, hm, hs, ht⟩
 · exact ⟨by omega, .inl ⟨rfl, List.eq_nil_of_length_eq_zero h2⟩⟩
 · refine ⟨by omega, .inr ⟨g, 0, cap, rfl, (Array.getElem?_eq_some_iff.1 hg).1, ?_, hn⟩⟩
   intro j v hv
   rw [← ht, List.getElem?_take] at hv
   split at hv
   · simp [World.cell?, hg]; simpa using hv
   · cases hv
theorem Bts.val {w : World} {v : Value} {bs : List UInt8} (h : Bts w v bs) : ∃ g cap, v = .slice g bs.length cap ∧ (∀ i x, bs[i]? = some x → ∃ b o, g = some ⟨b, o, none⟩ ∧ w.cell? ⟨b, o + i, none⟩ = some (bv x) ∧ b < w.heap.size) := by
 rcases h.2 with ⟨rfl, rfl⟩ | ⟨b, o, cap, rfl, hl, ha, _⟩
 · exact ⟨none, 0, rfl, by simp⟩
 · refine ⟨_, cap, rfl, fun i x hx => ⟨b, o, rfl, ha i _ (by simp [hx]), hl⟩⟩
theorem Bts.keep {w w' : World} {v : Value} {bs : List UInt8} {O O' : Nat → Prop} (h : Bts w v bs) (f : Fr O w O' w') (hn : ∀ b o l c, v = .slice (some ⟨b, o, none⟩) l c → ¬ O b) : Bts w' v bs := by
 refine ⟨h.1, ?_⟩
 rcases h.2 with h | ⟨b, o, cap, rfl, hl, ha, hc⟩
 · exact .inl h
 · exact .inr ⟨b, o, cap, rfl, Nat.lt_of_lt_of_le hl f.size, ha.agree (f.blk b hl (hn b o _ _ rfl)), hc⟩
theorem Bts.keep0 {w w' : World} {v : Value} {bs : List UInt8} {O' : Nat → Prop} (h : Bts w v bs) (f : Fr (fun _ => False) w O' w') : Bts w' v bs := h.keep f (fun _ _ _ _ _ h => h)
theorem ty85 : IsTy Tryz.prog 85 false 1 := iy85
theorem indexArr {w : World} {b : Nat} {k : IntKind} {i : Nat} (h1 : i < 256) :
 (Instr.indexAt 211 (.pointer (some ⟨b, 0, none⟩)) (.int k (i : Int))).run Tryz.prog w = .ok (.pointer (some ⟨b, i, none⟩)) w := by
 have h2 : ((i : Int) < 256) := by omega
 have h3 : ((0 : Int) ≤ (i : Int)) := by omega
 simp [Instr.indexAt, asIntOf, Tryz.runUnderlying211, Instr.sureAddr, h3, Tryz.sizeOf85, Addr.add_lit]
 intro h4; omega
theorem splice_get {cs : List Value} {i j : Nat} {v : Value} (h : i < cs.length) : (splice cs i [v])[j]? = if j = i then some v else cs[j]? := by
 have : splice cs i [v] = cs.set i v := by
  rw [List.set_eq_take_append_cons_drop, if_pos h]; simp [splice]
 rw [this, List.getElem?_set]
 by_cases hj : i = j
 · subst hj; simp [h]
 · rw [if_neg hj, if_neg (fun e => hj e.symm)]
theorem uv_ofNat {i : Nat} (h : i < 4294967296) : uv (BitVec.ofNat 32 i) = .int .u32 (i : Int) := by
 have : (BitVec.ofNat 32 i).toNat = i := by rw [BitVec.toNat_ofNat]; omega
 unfold uv; rw [this]
theorem inc_i64 {i : Nat} (h : i < 9223372036854775807) : Value.int .i64 (IntKind.i64.wrap ((i : Int) + 1)) = Value.int .i64 ((i + 1 : Nat) : Int) := by
 rw [wrap_i64 (by unfold isInt; omega)]; rfl
def TabAt (w : World) (bt n : Nat) : Prop := ∃ cs, Blk w bt cs 211 ∧ cs.length = 256 ∧ ∀ j, j < n → cs[j]? = some (uv (rnds 8 (BitVec.ofNat 32 j)))
theorem TabAt.store {w : World} {bt n : Nat} (h : TabAt w bt n) (hn : n < 256) : ∃ w', (storeVar 85 ⟨bt, n, none⟩ (uv (rnds 8 (BitVec.ofNat 32 n)))).run Tryz.prog w = .ok () w' ∧ TabAt w' bt (n + 1) ∧ Fr (fun b => b = bt) w (fun b => b = bt) w' := by
 obtain ⟨cs, hb, hl, ht⟩ := h
 have hst := store_at (P := Tryz.prog) (t := 85) (n := 1) (agg := false) (o := n) (v := uv (rnds 8 (BitVec.ofNat 32 n))) (vs := [uv (rnds 8 (BitVec.ofNat 32 n))]) ty85 rfl rfl (by simp [uv, Value.oneCell']) hb (by simp; omega)
 refine ⟨_, hst, ⟨_, hb.setRow _, by rw [splice_length (by simp; omega)]; exact hl, ?_⟩, Fr.setRow _ rfl⟩
 intro j hj
 rw [splice_get (by omega)]
 split
 · next h => rw [h]
 · exact ht j (by omega)
theorem run_xor8 (r : BitVec 32) (c : UInt8) {w : World} {t : TypeId} : (binOp .xor t (.int .u8 (IntKind.u8.wrap (r.toNat : Int))) (bv c)).run Tryz.prog w = .ok (.int .u8 (((r ^^^ BitVec.ofNat 32 c.toNat).toNat % 256 : Nat) : Int)) w := by
 show Result.ok (Value.int .u8 (IntKind.u8.wrap ((BitVec.ofInt 8 (IntKind.u8.wrap (r.toNat : Int)) ^^^ BitVec.ofInt 8 (c.toNat : Int)).toNat : Nat))) w = _
 have hc := c.toNat_lt
 have e : (BitVec.ofInt 8 (IntKind.u8.wrap (r.toNat : Int)) ^^^ BitVec.ofInt 8 (c.toNat : Int)).toNat = (r ^^^ BitVec.ofNat 32 c.toNat).toNat % 256 := by
  simp only [BitVec.toNat_xor, BitVec.toNat_ofInt, BitVec.toNat_ofNat, wrap_u8]
  have h1 : ((r.toNat : Int) % 256 % ((2 ^ 8 : Nat) : Int)).toNat = r.toNat % 2 ^ 8 := by omega
  have h2 : ((c.toNat : Int) % ((2 ^ 8 : Nat) : Int)).toNat = c.toNat % 2 ^ 8 := by omega
  rw [h1, h2, ← Nat.xor_mod_two_pow]
  congr 2
  omega
 rw [e, wrap_u8]
 congr 2
 omega
theorem c53 {w : World} {v : Value} {bs : List UInt8} (h : Bts w v bs) : Calls Tryz.prog 53 [v].toArray w (End (fun r w' => r = uv (crc bs) ∧ Fr (fun _ => False) w (fun _ => False) w') (fun _ _ => False)) := by
 have hml : bs.length ≤ 9223372036854775807 := by have := h.1; simpa [maxLen] using this
 obtain ⟨g, cap, hv, _⟩ := h.val
 obtain ⟨z, hz0, hzs⟩ : ∃ z, (∀ w, (zeroValue 211).run Tryz.prog w = .ok z w) ∧ z.cells.size = 256 := ⟨_, Tryz.zeroValue211, by kernel_rfl⟩
 refine cW 46 Tryz.func53 rfl rfl rfl ?_
 refine W.sq (W.rg (WL.an rfl rfl (WL.nx (W.sq (W.rg (WL.alloc (hz0 _) rfl (WL.kp [(0, v), (3, ptr w.heap.size)] ⟨rfl, rfl, trivial⟩ ?_)))))))
 have f1 : Fr (fun _ => False) w (fun b => b = w.heap.size) (w.alloc (.cells z.cells 211)) := ⟨rfl, rfl, rfl, by simp, fun b hb _ => heap_alloc_old w _ b hb, fun b hb => .inr (by omega)⟩
 have t1 : TabAt (w.alloc (.cells z.cells 211)) w.heap.size 0 := ⟨z.cells.toList, by have := heap_alloc_new w (.cells z.cells 211); simpa [Blk] using this, by simpa using hzs, by intro j hj; omega⟩
 generalize w.alloc (.cells z.cells 211) = w1 at f1 t1 ⊢
 refine W.seqI (ι := World) (fun _ => [(0, v), (3, ptr w.heap.size)]) (fun i w' => i = w' ∧ Fr (fun _ => False) w (fun b => b = w.heap.size) w' ∧ TabAt w' w.heap.size 256) ?_ ?_
 · refine W.sq (W.rg (WL.mv rfl rfl (WL.nx ?_)))
   refine W.bk (W.loop (ι := Nat) (fun i => [(0, v), (3, ptr w.heap.size), (9, .int .i64 i)]) (fun i w' => i ≤ 256 ∧ Fr (fun _ => False) w (fun b => b = w.heap.size) w' ∧ TabAt w' w.heap.size i) (fun i => 256 - i) 0 ⟨rfl, rfl, rfl, trivial⟩ ⟨by omega, f1, t1⟩ ?_)
   rintro i wi ⟨hi, fi, ti⟩
   refine W.sq (W.rg (WL.bi rfl rfl rfl rfl (WL.nx (W.sq ?_))))
   refine W.cond rfl (fun ht => W.skip fun a ha => tN ?_) (fun hf => W.exit fun a ha => tE (tE (eH (tN ?_))))
   · have hlt : i < 256 := by simp at ht; omega
     refine W.run ha (W.sq (W.bk (W.sq (W.rg (WL.mv rfl rfl (WL.an rfl rfl (WL.nx (W.sq (W.rg (WL.mv rfl rfl (WL.convert rfl (conv_int Tryz.runUnderlying3 Tryz.runUnderlying85) rfl (WL.an rfl rfl ?_))))))))))))
     rw [wrap_u32 (by omega) (by omega), ← uv_ofNat (i := i) (by omega)]
     refine WL.kp [(0, v), (3, ptr w.heap.size), (9, .int .i64 i), (4, .int .i64 i), (5, uv (BitVec.ofNat 32 i))] ⟨rfl, rfl, rfl, rfl, rfl, trivial⟩ ?_
     refine W.seqI (ι := Unit) (fun _ => [(0, v), (3, ptr w.heap.size), (9, .int .i64 i), (4, .int .i64 i), (5, uv (rnds 8 (BitVec.ofNat 32 i)))]) (fun _ w' => w' = wi) ?_ ?_
     · refine W.sq (W.rg (WL.mv rfl rfl (WL.nx ?_)))
       refine W.bk (W.loop (ι := Nat) (fun k => [(0, v), (3, ptr w.heap.size), (9, .int .i64 i), (4, .int .i64 i), (5, uv (rnds k (BitVec.ofNat 32 i))), (14, .int .i64 k)]) (fun k w' => k ≤ 8 ∧ w' = wi) (fun k => 8 - k) 0 ⟨rfl, rfl, rfl, rfl, rfl, rfl, trivial⟩ ⟨by omega, rfl⟩ ?_)
       rintro k _ ⟨hk, rfl⟩
       refine W.sq (W.rg (WL.bi rfl rfl rfl rfl (WL.nx (W.sq ?_))))
       refine W.cond rfl (fun ht => W.skip fun a ha => tN ?_) (fun hf => W.exit fun a ha => tE (tE (eH (tN ?_))))
       · have hk8 : k < 8 := by simp at ht; omega
         refine W.run ha (W.sq (W.bk (W.rg (WL.mv rfl rfl (WL.bi rfl rfl (run_shr32 (d := 1) rfl rfl) rfl (WL.mv rfl rfl (WL.bi rfl rfl (run_and32 (y := 1#32)) rfl (WL.unOp rfl run_neg32 rfl (WL.bi rfl rfl (run_and32 (y := poly)) rfl (WL.bi rfl rfl run_xor32 rfl (WL.an rfl rfl ?_)))))))))))
         refine WL.nil fun a ha => bN (tN (W.run ha (W.rg (WL.bi rfl rfl rfl rfl (WL.mv rfl rfl (WL.nil fun a ha => tN ?_))))))
         exact ⟨k + 1, ha.weak ⟨rfl, rfl, rfl, rfl, rfl, by show some _ = some _; rw [inc_i64 (by omega)], trivial⟩, ⟨hk8, rfl⟩, by omega⟩
       · have : k = 8 := by simp at hf; omega
         subst this
         exact ⟨(), ha.weak ⟨rfl, rfl, rfl, rfl, rfl, trivial⟩, rfl⟩
     · rintro _ _ rfl
       obtain ⟨w2, hst, ti2, f2⟩ := ti.store hlt
       refine W.rg (WL.mv rfl rfl (WL.mv rfl rfl (WL.ix rfl rfl (indexArr hlt) rfl (WL.so rfl rfl hst (WL.nil fun a ha => bN (tN (W.run ha (W.rg (WL.bi rfl rfl rfl rfl (WL.mv rfl rfl (WL.nil fun a ha => tN ?_)))))))))))
       exact ⟨i + 1, ha.weak ⟨rfl, rfl, by show some _ = some _; rw [inc_i64 (by omega)], trivial⟩, ⟨hlt, fi.trans f2, ti2⟩, by omega⟩
   · have : i = 256 := by simp at hf; omega
     subst this
     exact ⟨wi, ha.weak ⟨rfl, rfl, trivial⟩, rfl, fi, ti⟩
 · rintro w2 _ ⟨rfl, f2, cs, hb, hcl, hct⟩
   have h2 := h.keep0 f2
   obtain ⟨g2, cap2, hv2, hget⟩ := h2.val
   subst hv2
   refine W.sq (W.rg (WL.an rfl rfl (WL.nx ?_)))
   refine W.seqI (ι := Unit) (fun _ => [(6, uv (crcFrom (BitVec.allOnes 32) bs))]) (fun _ w' => w' = w2) ?_ ?_
   · refine W.sq (W.rg (WL.mv rfl rfl (WL.len rfl (lS Tryz.underlying22) rfl (WL.mv rfl rfl (WL.nx ?_)))))
     refine W.bk (W.loop (ι := Nat) (fun i => [(3, ptr w.heap.size), (6, uv (crcFrom (BitVec.allOnes 32) (bs.take i))), (28, .slice g2 bs.length cap2), (29, .int .i64 bs.length), (30, .int .i64 i)]) (fun i w' => i ≤ bs.length ∧ w' = w2) (fun i => bs.length - i) 0
      ⟨rfl, rfl, rfl, rfl, rfl, trivial⟩ ⟨Nat.zero_le _, rfl⟩ ?_)
     rintro i _ ⟨hi, rfl⟩
     refine W.sq (W.rg (WL.bi rfl rfl rfl rfl (WL.nx (W.sq ?_))))
     refine W.cond rfl (fun ht => W.skip fun a ha => tN ?_) (fun hf => W.exit fun a ha => tE (tE (eH (tN ?_))))
     · have hlt : i < bs.length := by simp at ht; omega
       obtain ⟨c, hc⟩ : ∃ c, bs[i]? = some c := ⟨_, List.getElem?_eq_getElem hlt⟩
       obtain ⟨b, o, rfl, hcell, _⟩ := hget i c hc
       refine W.run ha (W.sq (W.bk (W.sq (W.rg (WL.ix rfl rfl (indexSlice Tryz.underlying22 ty5 (by omega) (by omega)) rfl ?_)))))
       rw [Int.toNat_natCast, Nat.mul_one]
       refine WL.ld rfl (load1 ty5 hcell) rfl (WL.an rfl rfl (WL.nx ?_))
       generalize hr : crcFrom (BitVec.allOnes 32) (bs.take i) = r
       refine W.rg (WL.mv rfl rfl (WL.convert rfl (conv_int (k := .u8) Tryz.runUnderlying85 Tryz.runUnderlying5) rfl (WL.mv rfl rfl (WL.bi rfl rfl (run_xor8 r c) rfl ?_))))
       have hm : (r ^^^ BitVec.ofNat 32 c.toNat).toNat % 256 < 256 := Nat.mod_lt _ (by decide)
       refine WL.ix rfl rfl (indexArr hm) rfl (WL.ld rfl (load1 ty85 (by rw [hb.cell]; exact hct _ hm)) rfl ?_)
       refine WL.mv rfl rfl (WL.bi rfl rfl (run_shr32 (d := 8) rfl rfl) rfl (WL.bi rfl rfl run_xor32 rfl (WL.an rfl rfl ?_)))
       refine WL.nil fun a ha => bN (tN (W.run ha (W.rg (WL.bi rfl rfl rfl rfl (WL.mv rfl rfl (WL.nil fun a ha => tN ?_))))))
       refine ⟨i + 1, ha.weak ⟨rfl, ?_, rfl, rfl, by show some _ = some _; rw [inc_i64 (by omega)], trivial⟩, ⟨hlt, rfl⟩, by omega⟩
       show some _ = some _
       rw [take_snoc hc, crcFrom_snoc, hr]
       unfold upd
       rw [rnds_table (r ^^^ _), shr_xor]
       have hz : (BitVec.ofNat 32 c.toNat) >>> 8 = 0#32 := by
        apply BitVec.eq_of_toNat_eq
        have := c.toNat_lt
        simp only [BitVec.toNat_ushiftRight, BitVec.toNat_ofNat, Nat.shiftRight_eq_div_pow]
        omega
       rw [hz, BitVec.xor_zero]
     · have : i = bs.length := by simp at hf; omega
       subst this
       refine ⟨(), ha.weak ⟨?_, trivial⟩, rfl⟩
       show some _ = some _
       rw [List.take_length]
   · rintro _ _ rfl
     refine W.sq (W.rg (WL.mv rfl rfl (WL.unOp rfl run_not32 rfl (WL.an rfl rfl (WL.nx (W.ret fun a ha => pR rfl ha rfl ⟨rfl, ?_⟩))))))
     exact f2.drop (fun _ h => h)
end Go.Sx
namespace Go.Sx
open Go.Proofs
def le4 (x : BitVec 32) : List UInt8 := [(x.toNat % 256).toUInt8, ((x >>> 8).toNat % 256).toUInt8, ((x >>> 16).toNat % 256).toUInt8, ((x >>> 24).toNat % 256).toUInt8]
def sealed (bs : List UInt8) : List UInt8 := bs ++ le4 (crc bs)
theorem le4_cells (x : BitVec 32) : (le4 x).map bv = [.int .u8 ((x.toNat % 256 : Nat) : Int), .int .u8 (((x >>> 8).toNat % 256 : Nat) : Int), .int .u8 (((x >>> 16).toNat % 256 : Nat) : Int), .int .u8 (((x >>> 24).toNat % 256 : Nat) : Int)] := by
 simp only [le4, List.map_cons, List.map_nil]
 rw [bv_val _ (Nat.mod_lt _ (by decide)), bv_val _ (Nat.mod_lt _ (by decide)), bv_val _ (Nat.mod_lt _ (by decide)), bv_val _ (Nat.mod_lt _ (by decide))]
theorem conv_85_5 {w : World} {x : BitVec 32} : (convert 85 5 (uv x)).run Tryz.prog w = .ok (.int .u8 ((x.toNat % 256 : Nat) : Int)) w := by
 have := conv_int (P := Tryz.prog) (w := w) (k' := .u32) (n := (x.toNat : Int)) Tryz.runUnderlying85 Tryz.runUnderlying5
 rw [wrap_u8, toNat_mod] at this
 exact this
theorem src_bytes {w : World} {b n c : Nat} {l : List UInt8} (hb : Blk w b (l.map bv) 5) (hn : l.length = n) : Src Tryz.prog 1 22 (.slice (some ⟨b, 0, none⟩) n c) n (l.map bv) w :=
 src_lit (P := Tryz.prog) (e := 5) Tryz.underlying22 hb (by simpa using hn) (bv_one _)
theorem Bts.src {w : World} {v : Value} {bs : List UInt8} (h : Bts w v bs) : Src Tryz.prog 1 22 v bs.length (bs.map bv) w := by
 rcases h.2 with ⟨rfl, rfl⟩ | ⟨b, o, cap, rfl, hl, ha, _⟩
 · exact Src.ofNil w Tryz.underlying22 0
 · exact Src.ofSlice w Tryz.underlying22 _ _ _ _ (by simp) (fun j v hj => by rw [Addr.add_lit]; exact ha j v hj) (bv_one _)
theorem c28 {w : World} {v : Value} {xs : List UInt8} (r : w.ownsRow 0 5 1 v xs.length (xs.map bv)) (hl : xs.length ≤ 2 ^ 45) :
 Calls Tryz.prog 28 [v].toArray w (End (fun v' w' => w'.ownsRow 0 5 1 v' (sealed xs).length ((sealed xs).map bv) ∧ Fr (ownB v) w (ownB v') w') (fun _ _ => False)) := by
 refine cW 20 Tryz.func28 rfl rfl rfl ?_
 refine W.sq (W.rg (WL.an rfl rfl (WL.nx (W.sq (W.rg (WL.mv rfl rfl (WL.cl Tryz.call53 rfl rfl (c53 (Bts.of_row r)) ?_ nop))))))) 
 rintro _ w1 ⟨rfl, f1⟩
 have r1 := ownsRow_agree r (fun b hb => f1.blk b (ownsRow_own_lt r hb) (fun h => h))
 refine WL.an rfl rfl (WL.kp [(0, v), (3, uv (crc xs))] ⟨rfl, rfl, trivial⟩ ?_)
 generalize hx : crc xs = x
 refine W.sq (W.rg (WL.mv rfl rfl (WL.mv rfl rfl (WL.convert rfl conv_85_5 rfl (WL.mv rfl rfl (WL.bi rfl rfl (run_shr32 (d := 8) rfl rfl) rfl (WL.convert rfl conv_85_5 rfl ?_)))))))
 refine WL.mv rfl rfl (WL.bi rfl rfl (run_shr32 (d := 16) rfl rfl) rfl (WL.convert rfl conv_85_5 rfl (WL.mv rfl rfl (WL.bi rfl rfl (run_shr32 (d := 24) rfl rfl) rfl (WL.convert rfl conv_85_5 rfl ?_)))))
 refine WL.buildSlice rfl (slice_lit4 Tryz.underlying22 ty5 Tryz.zeroValue5 rfl rfl rfl rfl rfl) rfl ?_
 obtain ⟨v2, w2, hr2, r2, f2⟩ := append_bytes (w := w1.alloc (.cells [Value.int .u8 ((x.toNat % 256 : Nat) : Int), .int .u8 (((x >>> 8).toNat % 256 : Nat) : Int), .int .u8 (((x >>> 16).toNat % 256 : Nat) : Int), .int .u8 (((x >>> 24).toNat % 256 : Nat) : Int)].toArray 5)) (ty := 22) (ys := le4 x)
  (ownsRow_alloc r1 _) (src_bytes (n := 4) (c := 4) (by rw [le4_cells]; exact Blk.alloc_new) rfl) (by simp [le4]; omega)
 refine WL.append rfl rfl hr2 rfl (WL.an rfl rfl (WL.nx (W.ret fun a ha => pR rfl ha rfl ⟨?_, ?_⟩)))
 · unfold sealed; rw [hx]; exact r2
 · exact (f1.drop (fun _ h => h.elim)).trans ((Fr.alloc _ _ _).trans f2)
theorem equalIn_slice {P : Program} {w : World} {t e : TypeId} {a : Option Addr} {l c : Nat} {d : Nat} (ht : ∀ w, (underlying t).run P w = .ok (.slice e) w) :
 (Op.equalIn (d + 1) t (.slice a l c) (.slice none 0 0)).run P w = .ok a.isNone w := by
 cases a <;> simp [Op.equalIn, ht]
theorem run_eql_slice {P : Program} {w : World} {t e : TypeId} {a : Option Addr} {l c : Nat} (ht : ∀ w, (underlying t).run P w = .ok (.slice e) w) :
 (binOp .eql t (.slice a l c) (.slice none 0 0)).run P w = .ok (.bool a.isNone) w := by
 have h1 : binOp .eql t (.slice a l c) (.slice none 0 0) = (do pure (.bool (← Op.equal t (.slice a l c) (.slice none 0 0)))) := rfl
 have h2 : (Op.equal t (.slice a l c) (.slice none 0 0)).run P w = .ok a.isNone w := equalIn_slice (d := 9999) ht
 rw [h1]
 simp only [Sem.run_bind, h2, Result.andThen_ok, Sem.run_pure]
theorem guard_slice {P : Program} {w : World} {op : BinOp} {t : TypeId} {x y : Operand} {a b : Option Addr} {l c l' c' : Nat} : (eqGuard op t x y (.slice a l c) (.slice b l' c')).run P w = .ok () w := by
 unfold eqGuard; cases op <;> rfl
theorem lit_none {w : World} : (Instr.buildSlice 22 0 #[]).run Tryz.prog w = .ok (.slice (some ⟨w.heap.size, 0, none⟩) 0 0) (w.alloc (.cells ([] : List Value).toArray 5)) := by
 have hr : Array.range 0 = #[] := rfl
 simp [Instr.buildSlice, Tryz.runUnderlying22, Tryz.sizeOf5, Instr.fill, newRow, hr]
theorem row_none {w : World} : (w.alloc (.cells ([] : List Value).toArray 5)).ownsRow 0 5 1 (.slice (some ⟨w.heap.size, 0, none⟩) 0 0) ([] : List UInt8).length (([] : List UInt8).map bv) :=
 ⟨rfl, .inr ⟨w.heap.size, 0, #[], rfl, Nat.zero_le _, heap_alloc_new w _, Nat.le_refl _, Nat.zero_le _, rfl, rfl⟩⟩
theorem c29 {w : World} {v : Value} {xs : List UInt8} (h : Bts w v xs) (hl : xs.length ≤ 2 ^ 45) :
 Calls Tryz.prog 29 [v].toArray w (End (fun v' w' => w'.ownsRow 0 5 1 v' xs.length (xs.map bv) ∧ Fr (fun _ => False) w (ownB v') w') (fun _ _ => False)) := by
 obtain ⟨g, cap, rfl, _⟩ := h.val
 refine cW 8 Tryz.func29 rfl rfl rfl ?_
 refine W.sq (W.rg (WL.an rfl rfl (WL.nx (W.sq ?_))))
 refine W.sq (W.rg (WL.mv rfl rfl (WL.binAny rfl rfl guard_slice (run_eql_slice Tryz.runUnderlying22) rfl (WL.nx (W.cond rfl (fun ht => ?_) (fun hf => W.skip fun a ha => tN ?_))))))
 · refine W.sq (W.rg (WL.an rfl rfl (WL.nx (W.ret fun a ha => tR (pR rfl ha rfl ⟨?_, Fr.refl _ _ |>.drop (fun _ h => h) |> fun f => ⟨f.os, f.tape, f.output, f.size, f.blk, fun b hb => by cases hb⟩⟩)))))
   rcases h.2 with ⟨h1, rfl⟩ | ⟨b, o, c, h1, _⟩
   · exact World.ownsRow_nil w 0 5 1
   · simp at h1; rw [h1.1] at ht; cases ht
 · refine W.run ha (W.sq (W.rg (WL.buildSlice rfl lit_none rfl (WL.mv rfl rfl ?_))))
   have f0 : Fr (fun _ => False) w (fun b => b = w.heap.size) (w.alloc (.cells ([] : List Value).toArray 5)) := ⟨rfl, rfl, rfl, by simp, fun b hb _ => heap_alloc_old w _ b hb, fun b hb => .inr (by omega)⟩
   obtain ⟨v2, w2, hr2, r2, f2⟩ := append_bytes (ty := 22) row_none (h.keep0 f0).src (by simp; omega)
   refine WL.append rfl rfl hr2 rfl (WL.an rfl rfl (WL.nx (W.ret fun a ha => pR rfl ha rfl ⟨r2, ?_⟩)))
   refine f0.trans ?_
   have : (fun b => b = w.heap.size) = ownB (.slice (some ⟨w.heap.size, 0, none⟩) 0 0) := by
    funext b; simp only [ownB, Value.ownBlock, Option.some.injEq, eq_iff_iff]; exact eq_comm
   rw [this]; exact f2
theorem c27 {w : World} {v1 v2 : Value} {xs ys : List UInt8} (h1 : Bts w v1 xs) (h2 : Bts w v2 ys) :
 Calls Tryz.prog 27 [v1, v2].toArray w (End (fun r w' => r = .bool (decide (xs = ys)) ∧ Fr (fun _ => False) w (fun _ => False) w') (fun _ _ => False)) := by
 have hm1 : xs.length ≤ 9223372036854775807 := by have := h1.1; simpa [maxLen] using this
 have hm2 : ys.length ≤ 9223372036854775807 := by have := h2.1; simpa [maxLen] using this
 obtain ⟨g1, c1, rfl, get1⟩ := h1.val
 obtain ⟨g2, c2, rfl, get2⟩ := h2.val
 refine cW 26 Tryz.func27 rfl rfl rfl ?_
 refine W.sq (W.rg (WL.an rfl rfl (WL.nx (W.sq ?_))))
 refine W.sq (W.rg (WL.mv rfl rfl (WL.len rfl (lS Tryz.underlying22) rfl (WL.mv rfl rfl (WL.len rfl (lS Tryz.underlying22) rfl (WL.bi rfl rfl (run_neq rfl) rfl (WL.nx (W.cond rfl (fun ht => ?_) (fun hf => W.skip fun a ha => tN ?_)))))))))
 · refine W.sq (W.rg (WL.an rfl rfl (WL.nx (W.ret fun a ha => tR (pR rfl ha rfl ⟨?_, Fr.refl _ _⟩)))))
   have : xs ≠ ys := fun e => by subst e; simp at ht
   simp [this]
 · have hlen : xs.length = ys.length := by simp at hf; omega
   refine W.run (ha.weak (l := [(0, .slice g1 xs.length c1), (1, .slice g2 ys.length c2), (4, .bool false)]) ⟨rfl, rfl, rfl, trivial⟩) ?_
   refine W.seqI (ι := Nat) (fun _ => []) (fun k w' => w' = w.drewN k ∧ xs = ys) ?_ ?_
   · refine W.sq (W.rg (WL.mv rfl rfl (WL.len rfl (lS Tryz.underlying22) rfl (WL.mv rfl rfl (WL.nx ?_)))))
     refine W.bk (W.loop (ι := Nat × Nat) (fun i => [(0, .slice g1 xs.length c1), (1, .slice g2 ys.length c2), (4, .bool false), (12, .int .i64 xs.length), (13, .int .i64 i.1)]) (fun i w' => i.1 ≤ xs.length ∧ w' = w.drewN i.2 ∧ xs.take i.1 = ys.take i.1) (fun i => xs.length - i.1) (0, 0)
      ⟨rfl, rfl, rfl, rfl, rfl, trivial⟩ ⟨Nat.zero_le _, rfl, rfl⟩ ?_)
     rintro ⟨i, k⟩ _ ⟨hi, rfl, he⟩
     simp only at hi he ⊢
     refine W.sq (W.rg (WL.bi rfl rfl rfl rfl (WL.nx (W.sq ?_))))
     refine W.cond rfl (fun ht => W.skip fun a ha => tN ?_) (fun hf => W.exit fun a ha => tE (tE (eH (tN ?_))))
     · have hlt : i < xs.length := by simp at ht; omega
       obtain ⟨x, hx⟩ : ∃ x, xs[i]? = some x := ⟨_, List.getElem?_eq_getElem hlt⟩
       obtain ⟨y, hy⟩ : ∃ y, ys[i]? = some y := ⟨_, List.getElem?_eq_getElem (by omega)⟩
       obtain ⟨b1, o1, rfl, hc1, _⟩ := get1 i x hx
       obtain ⟨b2, o2, rfl, hc2, _⟩ := get2 i y hy
       have hi1 : ∀ w, (Instr.indexAt 22 (.slice (some ⟨b1, o1, none⟩) xs.length c1) (.int .i64 i)).run Tryz.prog w = .ok (.pointer (some ⟨b1, o1 + i, none⟩)) w := fun w => by
        have := indexSlice (P := Tryz.prog) (w := w) (b := b1) (o := o1) (cap := c1) (i := (i : Int)) Tryz.underlying22 ty5 (by omega) (by omega : (i : Int) < (xs.length : Nat))
        rwa [Int.toNat_natCast, Nat.mul_one] at this
       have hi2 : ∀ w, (Instr.indexAt 22 (.slice (some ⟨b2, o2, none⟩) ys.length c2) (.int .i64 i)).run Tryz.prog w = .ok (.pointer (some ⟨b2, o2 + i, none⟩)) w := fun w => by
        have := indexSlice (P := Tryz.prog) (w := w) (b := b2) (o := o2) (cap := c2) (i := (i : Int)) Tryz.underlying22 ty5 (by omega) (by omega : (i : Int) < (ys.length : Nat))
        rwa [Int.toNat_natCast, Nat.mul_one] at this
       have LD : ∀ (o b : Nat) (v : Value), w.cell? ⟨b, o, none⟩ = some v → ∀ w', (∃ k, w' = w.drewN k) → (loadVar 5 ⟨b, o, none⟩).run Tryz.prog w' = .ok v w' := by
        rintro o b v hc w' ⟨k, rfl⟩
        exact load1 ty5 (by simpa using hc)
       refine W.run ha (W.sq (W.bk (W.sq (W.rg (WL.mv rfl rfl (WL.an rfl rfl (WL.nx (W.sq ?_))))))))
       refine W.quiet (fun w' => ∃ k, w' = w.drewN k) mixed (by kernel_rfl) ⟨k + 1, rfl⟩ ?_
       refine QL.move rfl rfl (QL.move rfl rfl (QL.ix rfl rfl hi1 rfl (QL.load rfl (LD _ _ _ hc1) rfl (QL.move rfl rfl (QL.move rfl rfl (QL.ix rfl rfl hi2 rfl (QL.load rfl (LD _ _ _ hc2) rfl ?_)))))))
       refine QL.binInt rfl rfl (fun _ => run_neq rfl) rfl (QL.next ?_)
       rintro w' ⟨k', rfl⟩
       refine W.cond rfl (fun ht => ?_) (fun hf => W.skip fun a ha => ?_)
       · refine W.sq (W.rg (WL.an rfl rfl (WL.nx (W.ret fun a ha => bR (tR (tR (bR (tR (pR rfl ha rfl ⟨?_, (Fr.refl _ _).trans (Fr.drewn k')⟩)))))))))
         have : xs ≠ ys := by
          intro e; subst e; rw [hx] at hy; cases hy; simp at ht
         simp [this]
       · have hxy : x = y := by
          simp at hf
          have := Int.ofNat.inj hf
          exact UInt8.toNat_inj.1 this
         refine bN (tN (W.run ha (W.rg (WL.bi rfl rfl rfl rfl (WL.mv rfl rfl (WL.nil fun a ha => tN ?_))))))
         refine ⟨(i + 1, k'), ha.weak ⟨rfl, rfl, rfl, rfl, by show some _ = some _; rw [inc_i64 (by omega)], trivial⟩, ⟨hlt, rfl, ?_⟩, by simp only; omega⟩
         simp only; rw [take_snoc hx, take_snoc hy, he, hxy]
     · have : i = xs.length := by simp at hf; omega
       subst this
       refine ⟨k, ha.weak trivial, rfl, ?_⟩
       rw [List.take_length, List.take_of_length_le (by omega)] at he
       exact he
   · rintro k w' ⟨rfl, rfl⟩
     refine W.sq (W.rg (WL.an rfl rfl (WL.nx (W.ret fun a ha => pR rfl ha rfl ⟨by simp, Fr.drewn k⟩))))
end Go.Sx
namespace Go.Sx
open Go.Proofs
theorem info89 : (Tryz.prog.info? 89).map (fun i => i.comparable) = some true := by kernel_rfl
theorem held89 : Tryz.prog.stoodInHeld 89 = false := by kernel_rfl
def failedV : Value := .iface 89 (.agg #[])
theorem equalIn_failed {w : World} {d : Nat} : (Op.equalIn (d + 2) 20 failedV failedV).run Tryz.prog w = .ok true w := by
 obtain ⟨i, hi, hc⟩ : ∃ i, Tryz.prog.info? 89 = some i ∧ i.comparable = true := by
  have := info89
  cases h : Tryz.prog.info? 89 with
  | none => rw [h] at this; cases this
  | some i => rw [h] at this; exact ⟨i, rfl, by simpa using this⟩
 simp [Op.equalIn, failedV, Tryz.runUnderlying20, Tryz.runUnderlying89, typeInfo, hi, hc]
theorem run_neq_failed {w : World} : (binOp .neq 20 failedV failedV).run Tryz.prog w = .ok (.bool false) w := by
 have h1 : binOp .neq 20 failedV failedV = (do pure (.bool (!(← Op.equal 20 failedV failedV)))) := rfl
 have h2 : (Op.equal 20 failedV failedV).run Tryz.prog w = .ok true w := equalIn_failed (d := 9998)
 rw [h1]
 simp only [Sem.run_bind, h2, Result.andThen_ok, Sem.run_pure, Bool.not_true]
theorem run_neq_failed_nil {w : World} : (binOp .neq 20 failedV .nilIface).run Tryz.prog w = .ok (.bool true) w := by
 have h1 : binOp .neq 20 failedV .nilIface = (do pure (.bool (!(← Op.equal 20 failedV .nilIface)))) := rfl
 have h3 : ∀ d, (Op.equalIn (d + 1) 20 failedV .nilIface).run Tryz.prog w = .ok false w := fun d => by simp [Op.equalIn, failedV, Tryz.runUnderlying20]
 have h2 : (Op.equal 20 failedV .nilIface).run Tryz.prog w = .ok false w := h3 9999
 rw [h1]
 simp only [Sem.run_bind, h2, Result.andThen_ok, Sem.run_pure, Bool.not_false]
theorem run_neq_nil_nil {w : World} : (binOp .neq 20 .nilIface .nilIface).run Tryz.prog w = .ok (.bool false) w := by
 have h1 : binOp .neq 20 .nilIface .nilIface = (do pure (.bool (!(← Op.equal 20 .nilIface .nilIface)))) := rfl
 have h3 : ∀ d, (Op.equalIn (d + 1) 20 .nilIface .nilIface).run Tryz.prog w = .ok true w := fun d => by simp [Op.equalIn, Tryz.runUnderlying20]
 have h2 : (Op.equal 20 .nilIface .nilIface).run Tryz.prog w = .ok true w := h3 9999
 rw [h1]
 simp only [Sem.run_bind, h2, Result.andThen_ok, Sem.run_pure, Bool.not_true]
theorem guard_failed {w : World} {op : BinOp} {t : TypeId} {x y : Operand} {a : Value} : (eqGuard op t x y failedV a).run Tryz.prog w = .ok () w := by
 unfold eqGuard failedV; cases op <;> rfl
theorem guard_nil {P : Program} {w : World} {t : TypeId} {k : Nat} : (eqGuard .neq t (.tmp k) (.const .nilIface) .nilIface .nilIface).run P w = .ok () w := by
 unfold eqGuard; rfl
def caughtF : FrameMode := .panicking [{ v := failedV, recovered := true }]
theorem settle_caught : settle caughtF = .returning := rfl
theorem splice_one (a b : Value) : splice [a] 0 [b] = [b] := rfl
def setTwo (w : World) (b c : Nat) (x y : List Value) : World := (w.setRow b x.toArray).setRow c y.toArray
theorem wpS_recover {P : Program} {Q : Exit → Act → List Frame → World → Prop} {cs : List Frame} {w : World} {id d1 d2 n : Nat} {t1 t2 : TypeId} {p1 p2 : String} {a1 a2 : Array Edge} {m : Env} {v : Value} {cs' : List Frame}
 (hv : (recoverD cs = some (v, cs')) ∨ (recoverD cs = none ∧ v = .nilIface ∧ cs' = cs)) (h1 : Nat.blt d1 n = true) (h2 : Nat.blt d2 n = true)
 (h : ∀ a, Loc n [] ((d2, v) :: (d1, v) :: m) a → Q .normal a cs' w) {a : Act} (ha : Loc n [] m a) :
 (Code.region id #[⟨some d1, .call { callee := .builtin .recover, args := #[], argTypes := #[] }, t1, p1, a1, none⟩, ⟨some d2, .assign (.tmp d1), t2, p2, a2, none⟩] false).wpS P Q a cs w := by
 refine wpS_region ?_
 have hr : List.range (#[(⟨some d1, .call { callee := .builtin .recover, args := #[], argTypes := #[] }, t1, p1, a1, none⟩ : Oper), ⟨some d2, .assign (.tmp d1), t2, p2, a2, none⟩] : Array Oper).size = [0, 1] := rfl
 rw [hr]
 have l1 := ha.put d1 v h1
 have l2 := l1.put d2 v h2
 have e1 : (a.put (some d1) v).eval (.tmp d1) = v := l1.eval (by simp [ev, Env.get, Nat.beq_refl])
 have hx : ∀ w, (execOp a.eval ⟨some d1, .call { callee := .builtin .recover, args := #[], argTypes := #[] }, t1, p1, a1, none⟩).run P w = .ok .recover w := fun w => by
  simp [execOp, resolve, invoke, builtin]
 have hy : ∀ w, (execOp (a.put (some d1) v).eval ⟨some d2, .assign (.tmp d1), t2, p2, a2, none⟩).run P w = .ok (.value v) w := fun w => by
  simp [execOp, e1]
 have hw1 : Region.wanted ⟨some d1, .call { callee := .builtin .recover, args := #[], argTypes := #[] }, t1, p1, a1, none⟩ (yielded #[(⟨some d1, .call { callee := .builtin .recover, args := #[], argTypes := #[] }, t1, p1, a1, none⟩ : Oper), ⟨some d2, .assign (.tmp d1), t2, p2, a2, none⟩] a.tmps) = true := rfl
 have tail : wpOpsS P #[(⟨some d1, .call { callee := .builtin .recover, args := #[], argTypes := #[] }, t1, p1, a1, none⟩ : Oper), ⟨some d2, .assign (.tmp d1), t2, p2, a2, none⟩] Q [1] (a.put (some d1) v) cs' w := by
  simp only [wpOpsS, List.getElem?_toArray, List.getElem?_cons_succ, List.getElem?_cons_zero, Region.wanted, if_true, hy]
  show Oper.upon _ _ _ _ _ _
  rw [Oper.upon_value]
  exact h _ l2
 unfold wpOpsS
 simp only [List.getElem?_toArray, List.getElem?_cons_zero, hw1, if_true, hx]
 rcases hv with hv | ⟨hv, rfl, rfl⟩
 · rw [hv]; exact tail
 · rw [hv]; exact tail
theorem d95_idle {w : World} {b c : Nat} : CallsD Tryz.prog 95 [ptr b, ptr c].toArray .returning w fun e u' w' => e = .returned (.tuple #[]) ∧ u' = .returning ∧ w' = w := by
 refine callsD_of_wpS Tryz.func95 rfl fun c₀ cs hu => ?_
 have hrec : recoverD (c₀ :: cs) = none := by simp only [recoverD, hu]
 refine wpS_seq (wpS_recover (n := 11) (.inr ⟨hrec, rfl, rfl⟩) rfl rfl (fun a ha => ?_) (loc_args 11 [ptr b, ptr c] (by simp)))
 refine wpS_of_wp ?_
 refine W.run ha (W.sq (W.rg (WL.mv rfl rfl (WL.binAny rfl rfl guard_nil run_neq_nil_nil rfl (WL.nx (W.cond_false rfl (W.skip fun a ha => ?_)))))))
 refine ⟨ha.defers, .returning, by rw [← hu], _, results_none rfl _ _ _, rfl, rfl, rfl⟩
theorem setTwo_fr {O : Nat → Prop} {w : World} {b c : Nat} {x y : List Value} (hb : O b) (hc : O c) : Fr O w O (setTwo w b c x y) := (Fr.setRow _ hb).trans (Fr.setRow _ hc)
theorem d95_pan {w : World} {b c : Nat} {x y : Value} (hb : Blk w b [x] 22) (hc : Blk w c [y] 4) (hbc : b ≠ c) :
 CallsD Tryz.prog 95 [ptr b, ptr c].toArray (.panicking failedP) w fun e u' w' => e = .returned (.tuple #[]) ∧ u' = caughtF ∧ w' = setTwo w b c [.slice none 0 0] [.bool false] := by
 refine callsD_of_wpS Tryz.func95 rfl fun c₀ cs hu => ?_
 have hrec : recoverD (c₀ :: cs) = some (failedV, { c₀ with mode := caughtF } :: cs) := by simp only [recoverD, hu, failedP, caughtF, failedV]
 refine wpS_seq (wpS_recover (n := 11) (.inl hrec) rfl rfl (fun a ha => ?_) (loc_args 11 [ptr b, ptr c] (by simp)))
 refine wpS_of_wp ?_
 have hs1 := store_at (P := Tryz.prog) (w := w) (t := 22) (n := 1) (agg := false) (b := b) (o := 0) (v := .slice none 0 0) (vs := [.slice none 0 0]) ty22 rfl rfl (by simp [Value.oneCell']) hb (by simp)
 rw [splice_one] at hs1
 have hc' : Blk (w.setRow b [Value.slice none 0 0].toArray) c [y] 4 := (setRow_other w b c _ (fun e => hbc e.symm)).trans hc
 have hs2 := store_at (P := Tryz.prog) (w := w.setRow b [Value.slice none 0 0].toArray) (t := 4) (n := 1) (agg := false) (b := c) (o := 0) (v := .bool false) (vs := [.bool false]) ty4 rfl rfl (by simp [Value.oneCell']) hc' (by simp)
 rw [splice_one] at hs2
 refine W.run ha (W.sq (W.rg (WL.mv rfl rfl (WL.binAny rfl rfl guard_failed run_neq_failed_nil rfl (WL.nx (W.ct rfl ?_))))))
 refine W.sq (W.sq (W.rg (WL.mv rfl rfl (WL.build rfl run_failed rfl (WL.makeInterface rfl run_failedI rfl (WL.binAny rfl rfl guard_failed run_neq_failed rfl (WL.nx (W.cond_false rfl (W.skip fun a ha => tN ?_)))))))))
 refine W.run ha (W.rg (WL.so rfl rfl hs1 (WL.so rfl rfl hs2 (WL.nil fun a ha => ?_))))
 refine ⟨ha.defers, caughtF, rfl, _, results_none rfl _ _ _, rfl, rfl, rfl⟩
end Go.Sx
