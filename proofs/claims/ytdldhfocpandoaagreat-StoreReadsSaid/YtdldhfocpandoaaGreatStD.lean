import Derived.Test.YtdldhfocpandoaaGreatStC
import Derived.Test.YtdldhfocpandoaaGreatStA
set_option maxHeartbeats 8000000
set_option maxRecDepth 8000
namespace Go.Sx
open Go.Proofs Go.Proofs.Tryz
theorem QO {w0 : World} {S : Nat → Prop} {p most long : Nat} (t : T) : CC w0 S p most long 155 (.st .template) t := by
 intro cs hr s O w hw hu
 obtain ⟨l, rfl, hlen, hF⟩ := hr.st_inv
 obtain ⟨t0, l, rfl, r0, hF⟩ := hF.cons_inv
 obtain ⟨t1, l, rfl, r1, hF⟩ := hF.cons_inv
 obtain ⟨t2, l, rfl, r2, hF⟩ := hF.cons_inv
 obtain ⟨t3, l, rfl, r3, hF⟩ := hF.cons_inv
 obtain ⟨t4, l, rfl, r4, hF⟩ := hF.cons_inv
 obtain ⟨t5, l, rfl, r5, hF⟩ := hF.cons_inv
 obtain ⟨t6, l, rfl, r6, hF⟩ := hF.cons_inv
 obtain ⟨t7, l, rfl, r7, hF⟩ := hF.cons_inv
 obtain ⟨t8, l, rfl, r8, hF⟩ := hF.cons_inv
 obtain ⟨t9, l, rfl, r9, hF⟩ := hF.cons_inv
 obtain ⟨t10, l, rfl, r10, hF⟩ := hF.cons_inv
 obtain ⟨t11, l, rfl, r11, hF⟩ := hF.cons_inv
 obtain rfl := hF.nil_inv
 simp only [Nat.reduceAdd, Ty.size] at r0 r1 r2 r3 r4 r5 r6 r7 r8 r9 r10 r11
 obtain ⟨v0, e0⟩ := BD r0 rfl
 rw [e0] at r0
 obtain ⟨l0, rfl, _⟩ := r0.list_inv
 obtain ⟨x1, rfl, e1, i1⟩ := r1.str_inv
 obtain ⟨v2, e2⟩ := BD r2 rfl
 rw [e2] at r2
 obtain ⟨l2, rfl, _⟩ := r2.list_inv
 obtain ⟨b3, rfl, e3⟩ := r3.bool_inv
 obtain ⟨x4, rfl, e4, i4⟩ := r4.str_inv
 obtain ⟨v5, e5⟩ := BD r5 rfl
 rw [e5] at r5
 obtain ⟨l5, rfl, _⟩ := r5.list_inv
 obtain ⟨v6, e6⟩ := BD r6 rfl
 rw [e6] at r6
 obtain ⟨l6, rfl, _⟩ := r6.list_inv
 obtain ⟨x7, rfl, e7, i7⟩ := r7.str_inv
 obtain ⟨n8, rfl, e8, i8⟩ := r8.int_inv
 obtain ⟨n9, rfl, e9, i9⟩ := r9.int_inv
 obtain ⟨n10, rfl, e10, i10⟩ := r10.int_inv
 obtain ⟨n11, rfl, e11, i11⟩ := r11.int_inv
 rw [BX] at hu
 refine AB 56 func155 V V V ?_
 refine Af (Aa (Cd V V (Ar [(0, ptr p), (3, ptr w.heap.size)] ⟨V, V, trivial⟩ ?_)))
 have hb := hw.own_new cs 74
 have hw1 := hw.alloc (.cells cs.toArray 74)
 have fb : Fr O w O (w.alloc (.cells cs.toArray 74)) := Fr.alloc _ _ _
 show W _ _ _ _ _ _ (w.alloc (.cells cs.toArray 74))
 generalize w.alloc (.cells cs.toArray 74) = w1 at hb hw1 fb ⊢
 have P0 : Step w0 S p most long [] [.list l0, .str x1, .list l2, .bool b3, .str x4, .list l5, .list l6, .str x7, .int n8, .int n9, .int n10, .int n11] s O w s O w1 := ⟨hw1, fb, rfl, by omega, rfl⟩
 refine Af (Aa (Ac V V (Ab V (HQ _ _ _) V (Ai V (A4 Eh (hb.cell1 e0)) V (Ac V V (AH V V V (Aj call208 V V (OB (fun t _ => EU t) _ r0 _ _ _ P0.st P0.hdl) ?_ (fun ch w' h a ha => Am (Av ha (P0.pan h (fun e => (Bs V).trans e)))))))))))
 rintro _ w' ⟨rfl, s', O', hs, f, hw'⟩
 have P1 : Step w0 S p most long [.list l0] [.str x1, .list l2, .bool b3, .str x4, .list l5, .list l6, .str x7, .int n8, .int n9, .int n10, .int n11] s O w s' O' w' := P0.next hs f hw'
 replace hb := f.keep hb
 refine Ar [(0, ptr p), (3, ptr w.heap.size)] ⟨V, V, trivial⟩ ?_
 refine Af (Aa (Ac rfl rfl (Ab rfl (HD _ _ _) rfl (Ai rfl (A4 Cc (hb.cell1 e1)) rfl (Aj call151 rfl rfl (DW i1 _ _ _ P1.st P1.hd1) ?_ (fun _ _ h => by obtain ⟨_, h, _⟩ := h; simp only [enc] at h; cases h))))))
 rintro _ w' ⟨rfl, s', O', hs, f, hw'⟩
 have P2 : Step w0 S p most long [.list l0, .str x1] [.list l2, .bool b3, .str x4, .list l5, .list l6, .str x7, .int n8, .int n9, .int n10, .int n11] s O w s' O' w' := P1.next hs f hw'
 replace hb := f.keep hb
 refine Ar [(0, ptr p), (3, ptr w.heap.size)] ⟨V, V, trivial⟩ ?_
 refine Af (Aa (Ac V V (Ab V (HE _ _ _) V (Ai V (A4 D_ (hb.cell1 e2)) V (Ac V V (AH V V V (Aj call210 V V (O_ (fun t _ => PB t) _ r2 _ _ _ P2.st P2.hdl) ?_ (fun ch w' h a ha => Am (Av ha (P2.pan h (fun e => (Bs V).trans e)))))))))))
 rintro _ w' ⟨rfl, s', O', hs, f, hw'⟩
 have P3 : Step w0 S p most long [.list l0, .str x1, .list l2] [.bool b3, .str x4, .list l5, .list l6, .str x7, .int n8, .int n9, .int n10, .int n11] s O w s' O' w' := P2.next hs f hw'
 replace hb := f.keep hb
 refine Ar [(0, ptr p), (3, ptr w.heap.size)] ⟨V, V, trivial⟩ ?_
 refine Af (Aa (Ac V V (Ab V (Hs _ _ _) V (Ai V (A4 Dp (hb.cell1 e3)) V (A7 V (CT underlying349 Ee zeroValue4 V V) V ?_)))))
 refine Aj call206 V V (Jl (ns := [b3]) (P3.st.alloc _) (Step.hdb (ns := [b3]) P3) (P3.st.own_new _ 4)) ?_ Be
 rintro _ w' ⟨rfl, O', f, hw'⟩
 replace f := (Fr.alloc _ _ _).trans f
 have P4 : Step w0 S p most long [.list l0, .str x1, .list l2, .bool b3] [.str x4, .list l5, .list l6, .str x7, .int n8, .int n9, .int n10, .int n11] s O w _ O' w' := P3.bools (ns := [b3]) f hw'
 replace hb := f.keep hb
 refine Ar [(0, ptr p), (3, ptr w.heap.size)] ⟨V, V, trivial⟩ ?_
 refine Af (Aa (Ac rfl rfl (Ab rfl (Hu _ _ _) rfl (Ai rfl (A4 Cc (hb.cell1 e4)) rfl (Aj call151 rfl rfl (DW i4 _ _ _ P4.st P4.hd1) ?_ (fun _ _ h => by obtain ⟨_, h, _⟩ := h; simp only [enc] at h; cases h))))))
 rintro _ w' ⟨rfl, s', O', hs, f, hw'⟩
 have P5 : Step w0 S p most long [.list l0, .str x1, .list l2, .bool b3, .str x4] [.list l5, .list l6, .str x7, .int n8, .int n9, .int n10, .int n11] s O w s' O' w' := P4.next hs f hw'
 replace hb := f.keep hb
 refine Ar [(0, ptr p), (3, ptr w.heap.size)] ⟨V, V, trivial⟩ ?_
 refine Af (Aa (Ac V V (Ab V (HC _ _ _) V (Ai V (A4 GT (hb.cell1 e5)) V (Ac V V (AH V V V (Aj call211 V V (Pt (fun t _ => Oh t) _ r5 _ _ _ P5.st P5.hdl) ?_ (fun ch w' h a ha => Am (Av ha (P5.pan h (fun e => (Bs V).trans e)))))))))))
 rintro _ w' ⟨rfl, s', O', hs, f, hw'⟩
 have P6 : Step w0 S p most long [.list l0, .str x1, .list l2, .bool b3, .str x4, .list l5] [.list l6, .str x7, .int n8, .int n9, .int n10, .int n11] s O w s' O' w' := P5.next hs f hw'
 replace hb := f.keep hb
 refine Ar [(0, ptr p), (3, ptr w.heap.size)] ⟨V, V, trivial⟩ ?_
 refine Af (Aa (Ac V V (Ab V (Hx _ _ _) V (Ai V (A4 Dt (hb.cell1 e6)) V (Ac V V (AH V V V (Aj call213 V V (Nh (fun t _ => Mz t) _ r6 _ _ _ P6.st P6.hdl) ?_ (fun ch w' h a ha => Am (Av ha (P6.pan h (fun e => (Bs V).trans e)))))))))))
 rintro _ w' ⟨rfl, s', O', hs, f, hw'⟩
 have P7 : Step w0 S p most long [.list l0, .str x1, .list l2, .bool b3, .str x4, .list l5, .list l6] [.str x7, .int n8, .int n9, .int n10, .int n11] s O w s' O' w' := P6.next hs f hw'
 replace hb := f.keep hb
 refine Ar [(0, ptr p), (3, ptr w.heap.size)] ⟨V, V, trivial⟩ ?_
 refine Af (Aa (Ac rfl rfl (Ab rfl (HU _ _ _) rfl (Ai rfl (A4 Cc (hb.cell1 e7)) rfl (Aj call151 rfl rfl (DW i7 _ _ _ P7.st P7.hd1) ?_ (fun _ _ h => by obtain ⟨_, h, _⟩ := h; simp only [enc] at h; cases h))))))
 rintro _ w' ⟨rfl, s', O', hs, f, hw'⟩
 have P8 : Step w0 S p most long [.list l0, .str x1, .list l2, .bool b3, .str x4, .list l5, .list l6, .str x7] [.int n8, .int n9, .int n10, .int n11] s O w s' O' w' := P7.next hs f hw'
 replace hb := f.keep hb
 refine Ar [(0, ptr p), (3, ptr w.heap.size)] ⟨V, V, trivial⟩ ?_
 refine Aa (Ac V V (Ab V (H_ _ _ _) V (Ai V (A4 Cj (hb.cell1 e8)) V (Ab V (HP _ _ _) V (Ai V (A4 Cj (hb.cell1 e9)) V (Ab V (F_ _ _ _) V (Ai V (A4 Cj (hb.cell1 e10)) V (Ab V (Gp _ _ _) V (Ai V (A4 Cj (hb.cell1 e11)) V (A7 V (Im underlying262 Hm zeroValue3 V V V V V) V ?_))))))))))
 refine Aj call207 V V (LA (ns := [n8, n9, n10, n11]) (PX i8 i9 i10 i11) (P8.st.alloc _) (Step.hdi (ns := [n8, n9, n10, n11]) P8) (P8.st.own_new _ 3)) ?_ Be
 rintro _ w' ⟨rfl, O', f, hw'⟩
 replace f := (Fr.alloc _ _ _).trans f
 have P9 : Step w0 S p most long [.list l0, .str x1, .list l2, .bool b3, .str x4, .list l5, .list l6, .str x7, .int n8, .int n9, .int n10, .int n11] [] s O w _ O' w' := P8.ints (ns := [n8, n9, n10, n11]) f hw'
 replace hb := f.keep hb
 exact A2 fun a ha => AV V ha ⟨rfl, _, _, (Bs V).trans P9.en, P9.fr, P9.st⟩
theorem Ry {w0 : World} {S : Nat → Prop} {p most long : Nat} (t : T) : CC w0 S p most long 157 (.st .dfn) t := by
 intro cs hr s O w hw hu
 obtain ⟨l, rfl, hlen, hF⟩ := hr.st_inv
 obtain ⟨t0, l, rfl, r0, hF⟩ := hF.cons_inv
 obtain ⟨t1, l, rfl, r1, hF⟩ := hF.cons_inv
 obtain ⟨t2, l, rfl, r2, hF⟩ := hF.cons_inv
 obtain ⟨t3, l, rfl, r3, hF⟩ := hF.cons_inv
 obtain ⟨t4, l, rfl, r4, hF⟩ := hF.cons_inv
 obtain ⟨t5, l, rfl, r5, hF⟩ := hF.cons_inv
 obtain ⟨t6, l, rfl, r6, hF⟩ := hF.cons_inv
 obtain ⟨t7, l, rfl, r7, hF⟩ := hF.cons_inv
 obtain rfl := hF.nil_inv
 simp only [Nat.reduceAdd, Ty.size, SN.size] at r0 r1 r2 r3 r4 r5 r6 r7
 obtain ⟨x0, rfl, e0, i0⟩ := r0.str_inv
 obtain ⟨v1, e1⟩ := BD r1 rfl
 rw [e1] at r1
 obtain ⟨l1, rfl, _⟩ := r1.list_inv
 obtain ⟨x4, rfl, e4, i4⟩ := r4.str_inv
 obtain ⟨n5, rfl, e5, i5⟩ := r5.int_inv
 obtain ⟨n6, rfl, e6, i6⟩ := r6.int_inv
 obtain ⟨n7, rfl, e7, i7⟩ := r7.int_inv
 rw [BX] at hu
 refine AB 35 func157 V V V ?_
 refine Af (Aa (Cd V V (Ar [(0, ptr p), (3, ptr w.heap.size)] ⟨V, V, trivial⟩ ?_)))
 have hb := hw.own_new cs 140
 have hw1 := hw.alloc (.cells cs.toArray 140)
 have fb : Fr O w O (w.alloc (.cells cs.toArray 140)) := Fr.alloc _ _ _
 show W _ _ _ _ _ _ (w.alloc (.cells cs.toArray 140))
 generalize w.alloc (.cells cs.toArray 140) = w1 at hb hw1 fb ⊢
 have P0 : Step w0 S p most long [] [.str x0, .list l1, t2, t3, .str x4, .int n5, .int n6, .int n7] s O w s O w1 := ⟨hw1, fb, rfl, by omega, rfl⟩
 refine Af (Aa (Ac rfl rfl (Ab rfl (FO _ _ _) rfl (Ai rfl (A4 Cc (hb.cell1 e0)) rfl (Aj call151 rfl rfl (DW i0 _ _ _ P0.st P0.hd1) ?_ (fun _ _ h => by obtain ⟨_, h, _⟩ := h; simp only [enc] at h; cases h))))))
 rintro _ w' ⟨rfl, s', O', hs, f, hw'⟩
 have P1 : Step w0 S p most long [.str x0] [.list l1, t2, t3, .str x4, .int n5, .int n6, .int n7] s O w s' O' w' := P0.next hs f hw'
 replace hb := f.keep hb
 refine Ar [(0, ptr p), (3, ptr w.heap.size)] ⟨V, V, trivial⟩ ?_
 refine Af (Aa (Ac V V (Ab V (Gf _ _ _) V (Ai V (A4 GT (hb.cell1 e1)) V (Ac V V (AH V V V (Aj call211 V V (Pt (fun t _ => Oh t) _ r1 _ _ _ P1.st P1.hdl) ?_ (fun ch w' h a ha => Am (Av ha (P1.pan h (fun e => (Bs V).trans e)))))))))))
 rintro _ w' ⟨rfl, s', O', hs, f, hw'⟩
 have P2 : Step w0 S p most long [.str x0, .list l1] [t2, t3, .str x4, .int n5, .int n6, .int n7] s O w s' O' w' := P1.next hs f hw'
 replace hb := f.keep hb
 refine Ar [(0, ptr p), (3, ptr w.heap.size)] ⟨V, V, trivial⟩ ?_
 refine Af (Aa (Ac V V (Ab V (Gc _ _ _) V (Ai V (Bg D9 (Rep.one _ _ _ r2).1 (hb.blk.at_ 2 5)) V (Aj call215 V V (Oo _ _ r2 _ _ _ P2.st P2.hd) ?_ (fun ch w' h a ha => Am (Av ha (P2.pan h (fun e => (Bs V).trans e)))))))))
 rintro _ w' ⟨rfl, s', O', hs, f, hw'⟩
 have P3 : Step w0 S p most long [.str x0, .list l1, t2] [t3, .str x4, .int n5, .int n6, .int n7] s O w s' O' w' := P2.next hs f hw'
 replace hb := f.keep hb
 refine Ar [(0, ptr p), (3, ptr w.heap.size)] ⟨V, V, trivial⟩ ?_
 refine Af (Aa (Ac V V (Ab V (FZ _ _ _) V (Ai V (Bg BY (Rep.one _ _ _ r3).1 (hb.blk.at_ 7 16)) V (Aj call209 V V (EU _ _ r3 _ _ _ P3.st P3.hd) ?_ (fun ch w' h a ha => Am (Av ha (P3.pan h (fun e => (Bs V).trans e)))))))))
 rintro _ w' ⟨rfl, s', O', hs, f, hw'⟩
 have P4 : Step w0 S p most long [.str x0, .list l1, t2, t3] [.str x4, .int n5, .int n6, .int n7] s O w s' O' w' := P3.next hs f hw'
 replace hb := f.keep hb
 refine Ar [(0, ptr p), (3, ptr w.heap.size)] ⟨V, V, trivial⟩ ?_
 refine Af (Aa (Ac rfl rfl (Ab rfl (FS _ _ _) rfl (Ai rfl (A4 Cc (hb.cell1 e4)) rfl (Aj call151 rfl rfl (DW i4 _ _ _ P4.st P4.hd1) ?_ (fun _ _ h => by obtain ⟨_, h, _⟩ := h; simp only [enc] at h; cases h))))))
 rintro _ w' ⟨rfl, s', O', hs, f, hw'⟩
 have P5 : Step w0 S p most long [.str x0, .list l1, t2, t3, .str x4] [.int n5, .int n6, .int n7] s O w s' O' w' := P4.next hs f hw'
 replace hb := f.keep hb
 refine Ar [(0, ptr p), (3, ptr w.heap.size)] ⟨V, V, trivial⟩ ?_
 refine Aa (Ac V V (Ab V (Gw _ _ _) V (Ai V (A4 Cj (hb.cell1 e5)) V (Ab V (FA _ _ _) V (Ai V (A4 Cj (hb.cell1 e6)) V (Ab V (Gu _ _ _) V (Ai V (A4 Cj (hb.cell1 e7)) V (A7 V (Iw underlying262 Hm zeroValue3 V V V V) V ?_))))))))
 refine Aj call207 V V (LA (ns := [n5, n6, n7]) (Pf i5 i6 i7) (P5.st.alloc _) (Step.hdi (ns := [n5, n6, n7]) P5) (P5.st.own_new _ 3)) ?_ Be
 rintro _ w' ⟨rfl, O', f, hw'⟩
 replace f := (Fr.alloc _ _ _).trans f
 have P6 : Step w0 S p most long [.str x0, .list l1, t2, t3, .str x4, .int n5, .int n6, .int n7] [] s O w _ O' w' := P5.ints (ns := [n5, n6, n7]) f hw'
 replace hb := f.keep hb
 exact A2 fun a ha => AV V ha ⟨rfl, _, _, (Bs V).trans P6.en, P6.fr, P6.st⟩
theorem R1 {w0 : World} {S : Nat → Prop} {p most long : Nat} (t : T) : CC w0 S p most long 159 (.st .global) t := by
 intro cs hr s O w hw hu
 obtain ⟨l, rfl, hlen, hF⟩ := hr.st_inv
 obtain ⟨t0, l, rfl, r0, hF⟩ := hF.cons_inv
 obtain ⟨t1, l, rfl, r1, hF⟩ := hF.cons_inv
 obtain ⟨t2, l, rfl, r2, hF⟩ := hF.cons_inv
 obtain ⟨t3, l, rfl, r3, hF⟩ := hF.cons_inv
 obtain ⟨t4, l, rfl, r4, hF⟩ := hF.cons_inv
 obtain ⟨t5, l, rfl, r5, hF⟩ := hF.cons_inv
 obtain ⟨t6, l, rfl, r6, hF⟩ := hF.cons_inv
 obtain ⟨t7, l, rfl, r7, hF⟩ := hF.cons_inv
 obtain ⟨t8, l, rfl, r8, hF⟩ := hF.cons_inv
 obtain ⟨t9, l, rfl, r9, hF⟩ := hF.cons_inv
 obtain rfl := hF.nil_inv
 simp only [Nat.reduceAdd, Ty.size, SN.size] at r0 r1 r2 r3 r4 r5 r6 r7 r8 r9
 obtain ⟨x0, rfl, e0, i0⟩ := r0.str_inv
 obtain ⟨b1, rfl, e1⟩ := r1.bool_inv
 obtain ⟨b3, rfl, e3⟩ := r3.bool_inv
 obtain ⟨v5, e5⟩ := BD r5 rfl
 rw [e5] at r5
 obtain ⟨l5, rfl, _⟩ := r5.list_inv
 obtain ⟨x6, rfl, e6, i6⟩ := r6.str_inv
 obtain ⟨n7, rfl, e7, i7⟩ := r7.int_inv
 obtain ⟨n8, rfl, e8, i8⟩ := r8.int_inv
 obtain ⟨n9, rfl, e9, i9⟩ := r9.int_inv
 rw [BX] at hu
 refine AB 45 func159 V V V ?_
 refine Af (Aa (Cd V V (Ar [(0, ptr p), (3, ptr w.heap.size)] ⟨V, V, trivial⟩ ?_)))
 have hb := hw.own_new cs 144
 have hw1 := hw.alloc (.cells cs.toArray 144)
 have fb : Fr O w O (w.alloc (.cells cs.toArray 144)) := Fr.alloc _ _ _
 show W _ _ _ _ _ _ (w.alloc (.cells cs.toArray 144))
 generalize w.alloc (.cells cs.toArray 144) = w1 at hb hw1 fb ⊢
 have P0 : Step w0 S p most long [] [.str x0, .bool b1, t2, .bool b3, t4, .list l5, .str x6, .int n7, .int n8, .int n9] s O w s O w1 := ⟨hw1, fb, rfl, by omega, rfl⟩
 refine Af (Aa (Ac rfl rfl (Ab rfl (FL _ _ _) rfl (Ai rfl (A4 Cc (hb.cell1 e0)) rfl (Aj call151 rfl rfl (DW i0 _ _ _ P0.st P0.hd1) ?_ (fun _ _ h => by obtain ⟨_, h, _⟩ := h; simp only [enc] at h; cases h))))))
 rintro _ w' ⟨rfl, s', O', hs, f, hw'⟩
 have P1 : Step w0 S p most long [.str x0] [.bool b1, t2, .bool b3, t4, .list l5, .str x6, .int n7, .int n8, .int n9] s O w s' O' w' := P0.next hs f hw'
 replace hb := f.keep hb
 refine Ar [(0, ptr p), (3, ptr w.heap.size)] ⟨V, V, trivial⟩ ?_
 refine Af (Aa (Ac V V (Ab V (FH _ _ _) V (Ai V (A4 Dp (hb.cell1 e1)) V (A7 V (CT underlying349 Ee zeroValue4 V V) V ?_)))))
 refine Aj call206 V V (Jl (ns := [b1]) (P1.st.alloc _) (Step.hdb (ns := [b1]) P1) (P1.st.own_new _ 4)) ?_ Be
 rintro _ w' ⟨rfl, O', f, hw'⟩
 replace f := (Fr.alloc _ _ _).trans f
 have P2 : Step w0 S p most long [.str x0, .bool b1] [t2, .bool b3, t4, .list l5, .str x6, .int n7, .int n8, .int n9] s O w _ O' w' := P1.bools (ns := [b1]) f hw'
 replace hb := f.keep hb
 refine Ar [(0, ptr p), (3, ptr w.heap.size)] ⟨V, V, trivial⟩ ?_
 refine Af (Aa (Ac V V (Ab V (FI _ _ _) V (Ai V (Bg D9 (Rep.one _ _ _ r2).1 (hb.blk.at_ 2 5)) V (Aj call215 V V (Oo _ _ r2 _ _ _ P2.st P2.hd) ?_ (fun ch w' h a ha => Am (Av ha (P2.pan h (fun e => (Bs V).trans e)))))))))
 rintro _ w' ⟨rfl, s', O', hs, f, hw'⟩
 have P3 : Step w0 S p most long [.str x0, .bool b1, t2] [.bool b3, t4, .list l5, .str x6, .int n7, .int n8, .int n9] s O w s' O' w' := P2.next hs f hw'
 replace hb := f.keep hb
 refine Ar [(0, ptr p), (3, ptr w.heap.size)] ⟨V, V, trivial⟩ ?_
 refine Af (Aa (Ac V V (Ab V (FF _ _ _) V (Ai V (A4 Dp (hb.cell1 e3)) V (A7 V (CT underlying349 Ee zeroValue4 V V) V ?_)))))
 refine Aj call206 V V (Jl (ns := [b3]) (P3.st.alloc _) (Step.hdb (ns := [b3]) P3) (P3.st.own_new _ 4)) ?_ Be
 rintro _ w' ⟨rfl, O', f, hw'⟩
 replace f := (Fr.alloc _ _ _).trans f
 have P4 : Step w0 S p most long [.str x0, .bool b1, t2, .bool b3] [t4, .list l5, .str x6, .int n7, .int n8, .int n9] s O w _ O' w' := P3.bools (ns := [b3]) f hw'
 replace hb := f.keep hb
 refine Ar [(0, ptr p), (3, ptr w.heap.size)] ⟨V, V, trivial⟩ ?_
 refine Af (Aa (Ac V V (Ab V (Fw _ _ _) V (Ai V (Bg BY (Rep.one _ _ _ r4).1 (hb.blk.at_ 8 16)) V (Aj call209 V V (EU _ _ r4 _ _ _ P4.st P4.hd) ?_ (fun ch w' h a ha => Am (Av ha (P4.pan h (fun e => (Bs V).trans e)))))))))
 rintro _ w' ⟨rfl, s', O', hs, f, hw'⟩
 have P5 : Step w0 S p most long [.str x0, .bool b1, t2, .bool b3, t4] [.list l5, .str x6, .int n7, .int n8, .int n9] s O w s' O' w' := P4.next hs f hw'
 replace hb := f.keep hb
 refine Ar [(0, ptr p), (3, ptr w.heap.size)] ⟨V, V, trivial⟩ ?_
 refine Af (Aa (Ac V V (Ab V (FV _ _ _) V (Ai V (A4 Dt (hb.cell1 e5)) V (Ac V V (AH V V V (Aj call213 V V (Nh (fun t _ => Mz t) _ r5 _ _ _ P5.st P5.hdl) ?_ (fun ch w' h a ha => Am (Av ha (P5.pan h (fun e => (Bs V).trans e)))))))))))
 rintro _ w' ⟨rfl, s', O', hs, f, hw'⟩
 have P6 : Step w0 S p most long [.str x0, .bool b1, t2, .bool b3, t4, .list l5] [.str x6, .int n7, .int n8, .int n9] s O w s' O' w' := P5.next hs f hw'
 replace hb := f.keep hb
 refine Ar [(0, ptr p), (3, ptr w.heap.size)] ⟨V, V, trivial⟩ ?_
 refine Af (Aa (Ac rfl rfl (Ab rfl (FQ _ _ _) rfl (Ai rfl (A4 Cc (hb.cell1 e6)) rfl (Aj call151 rfl rfl (DW i6 _ _ _ P6.st P6.hd1) ?_ (fun _ _ h => by obtain ⟨_, h, _⟩ := h; simp only [enc] at h; cases h))))))
 rintro _ w' ⟨rfl, s', O', hs, f, hw'⟩
 have P7 : Step w0 S p most long [.str x0, .bool b1, t2, .bool b3, t4, .list l5, .str x6] [.int n7, .int n8, .int n9] s O w s' O' w' := P6.next hs f hw'
 replace hb := f.keep hb
 refine Ar [(0, ptr p), (3, ptr w.heap.size)] ⟨V, V, trivial⟩ ?_
 refine Aa (Ac V V (Ab V (F2 _ _ _) V (Ai V (A4 Cj (hb.cell1 e7)) V (Ab V (Gh _ _ _) V (Ai V (A4 Cj (hb.cell1 e8)) V (Ab V (FW _ _ _) V (Ai V (A4 Cj (hb.cell1 e9)) V (A7 V (Iw underlying262 Hm zeroValue3 V V V V) V ?_))))))))
 refine Aj call207 V V (LA (ns := [n7, n8, n9]) (Pf i7 i8 i9) (P7.st.alloc _) (Step.hdi (ns := [n7, n8, n9]) P7) (P7.st.own_new _ 3)) ?_ Be
 rintro _ w' ⟨rfl, O', f, hw'⟩
 replace f := (Fr.alloc _ _ _).trans f
 have P8 : Step w0 S p most long [.str x0, .bool b1, t2, .bool b3, t4, .list l5, .str x6, .int n7, .int n8, .int n9] [] s O w _ O' w' := P7.ints (ns := [n7, n8, n9]) f hw'
 replace hb := f.keep hb
 exact A2 fun a ha => AV V ha ⟨rfl, _, _, (Bs V).trans P8.en, P8.fr, P8.st⟩
theorem QU {w0 : World} {S : Nat → Prop} {p most long : Nat} (t : T) : CC w0 S p most long 161 (.st .key) t := by
 intro cs hr s O w hw hu
 obtain ⟨l, rfl, hlen, hF⟩ := hr.st_inv
 obtain ⟨t0, l, rfl, r0, hF⟩ := hF.cons_inv
 obtain ⟨t1, l, rfl, r1, hF⟩ := hF.cons_inv
 obtain ⟨t2, l, rfl, r2, hF⟩ := hF.cons_inv
 obtain rfl := hF.nil_inv
 simp only [Nat.reduceAdd, Ty.size, SN.size] at r0 r1 r2
 obtain ⟨x0, rfl, e0, i0⟩ := r0.str_inv
 obtain ⟨v1, e1⟩ := BD r1 rfl
 rw [e1] at r1
 obtain ⟨l1, rfl, _⟩ := r1.list_inv
 rw [BX] at hu
 refine AB 18 func161 V V V ?_
 refine Af (Aa (Cd V V (Ar [(0, ptr p), (3, ptr w.heap.size)] ⟨V, V, trivial⟩ ?_)))
 have hb := hw.own_new cs 76
 have hw1 := hw.alloc (.cells cs.toArray 76)
 have fb : Fr O w O (w.alloc (.cells cs.toArray 76)) := Fr.alloc _ _ _
 show W _ _ _ _ _ _ (w.alloc (.cells cs.toArray 76))
 generalize w.alloc (.cells cs.toArray 76) = w1 at hb hw1 fb ⊢
 have P0 : Step w0 S p most long [] [.str x0, .list l1, t2] s O w s O w1 := ⟨hw1, fb, rfl, by omega, rfl⟩
 refine Af (Aa (Ac rfl rfl (Ab rfl (Hy _ _ _) rfl (Ai rfl (A4 Cc (hb.cell1 e0)) rfl (Aj call151 rfl rfl (DW i0 _ _ _ P0.st P0.hd1) ?_ (fun _ _ h => by obtain ⟨_, h, _⟩ := h; simp only [enc] at h; cases h))))))
 rintro _ w' ⟨rfl, s', O', hs, f, hw'⟩
 have P1 : Step w0 S p most long [.str x0] [.list l1, t2] s O w s' O' w' := P0.next hs f hw'
 replace hb := f.keep hb
 refine Ar [(0, ptr p), (3, ptr w.heap.size)] ⟨V, V, trivial⟩ ?_
 refine Af (Aa (Ac V V (Ab V (Ia _ _ _) V (Ai V (A4 Eh (hb.cell1 e1)) V (Ac V V (AH V V V (Aj call208 V V (OB (fun t _ => EU t) _ r1 _ _ _ P1.st P1.hdl) ?_ (fun ch w' h a ha => Am (Av ha (P1.pan h (fun e => (Bs V).trans e)))))))))))
 rintro _ w' ⟨rfl, s', O', hs, f, hw'⟩
 have P2 : Step w0 S p most long [.str x0, .list l1] [t2] s O w s' O' w' := P1.next hs f hw'
 replace hb := f.keep hb
 refine Ar [(0, ptr p), (3, ptr w.heap.size)] ⟨V, V, trivial⟩ ?_
 refine Aa (Ac V V (Ab V (HK _ _ _) V (Ai V (Bg BY (Rep.one _ _ _ r2).1 (hb.blk.at_ 2 16)) V (Aj call209 V V (EU _ _ r2 _ _ _ P2.st P2.hd) ?_ (fun ch w' h a ha => Av ha (P2.pan h (fun e => (Bs V).trans e)))))))
 rintro _ w' ⟨rfl, s', O', hs, f, hw'⟩
 have P3 : Step w0 S p most long [.str x0, .list l1, t2] [] s O w s' O' w' := P2.next hs f hw'
 replace hb := f.keep hb
 exact A2 fun a ha => AV V ha ⟨rfl, _, _, (Bs V).trans P3.en, P3.fr, P3.st⟩
theorem QP {w0 : World} {S : Nat → Prop} {p most long : Nat} (t : T) : CC w0 S p most long 217 (.st .rule) t := by
 intro cs hr s O w hw hu
 obtain ⟨l, rfl, hlen, hF⟩ := hr.st_inv
 obtain ⟨t0, l, rfl, r0, hF⟩ := hF.cons_inv
 obtain ⟨t1, l, rfl, r1, hF⟩ := hF.cons_inv
 obtain ⟨t2, l, rfl, r2, hF⟩ := hF.cons_inv
 obtain rfl := hF.nil_inv
 simp only [Nat.reduceAdd, Ty.size, SN.size] at r0 r1 r2
 obtain ⟨v0, e0⟩ := BD r0 rfl
 rw [e0] at r0
 obtain ⟨l0, rfl, _⟩ := r0.list_inv
 obtain ⟨b1, rfl, e1⟩ := r1.bool_inv
 rw [BX] at hu
 refine AB 19 func217 V V V ?_
 refine Af (Aa (Cd V V (Ar [(0, ptr p), (3, ptr w.heap.size)] ⟨V, V, trivial⟩ ?_)))
 have hb := hw.own_new cs 182
 have hw1 := hw.alloc (.cells cs.toArray 182)
 have fb : Fr O w O (w.alloc (.cells cs.toArray 182)) := Fr.alloc _ _ _
 show W _ _ _ _ _ _ (w.alloc (.cells cs.toArray 182))
 generalize w.alloc (.cells cs.toArray 182) = w1 at hb hw1 fb ⊢
 have P0 : Step w0 S p most long [] [.list l0, .bool b1, t2] s O w s O w1 := ⟨hw1, fb, rfl, by omega, rfl⟩
 refine Af (Aa (Ac V V (Ab V (FR _ _ _) V (Ai V (A4 Eh (hb.cell1 e0)) V (Ac V V (AH V V V (Aj call208 V V (OB (fun t _ => EU t) _ r0 _ _ _ P0.st P0.hdl) ?_ (fun ch w' h a ha => Am (Av ha (P0.pan h (fun e => (Bs V).trans e)))))))))))
 rintro _ w' ⟨rfl, s', O', hs, f, hw'⟩
 have P1 : Step w0 S p most long [.list l0] [.bool b1, t2] s O w s' O' w' := P0.next hs f hw'
 replace hb := f.keep hb
 refine Ar [(0, ptr p), (3, ptr w.heap.size)] ⟨V, V, trivial⟩ ?_
 refine Af (Aa (Ac V V (Ab V (FJ _ _ _) V (Ai V (A4 Dp (hb.cell1 e1)) V (A7 V (CT underlying349 Ee zeroValue4 V V) V ?_)))))
 refine Aj call206 V V (Jl (ns := [b1]) (P1.st.alloc _) (Step.hdb (ns := [b1]) P1) (P1.st.own_new _ 4)) ?_ Be
 rintro _ w' ⟨rfl, O', f, hw'⟩
 replace f := (Fr.alloc _ _ _).trans f
 have P2 : Step w0 S p most long [.list l0, .bool b1] [t2] s O w _ O' w' := P1.bools (ns := [b1]) f hw'
 replace hb := f.keep hb
 refine Ar [(0, ptr p), (3, ptr w.heap.size)] ⟨V, V, trivial⟩ ?_
 refine Aa (Ac V V (Ab V (FC _ _ _) V (Ai V (Bg BY (Rep.one _ _ _ r2).1 (hb.blk.at_ 2 16)) V (Aj call209 V V (EU _ _ r2 _ _ _ P2.st P2.hd) ?_ (fun ch w' h a ha => Av ha (P2.pan h (fun e => (Bs V).trans e)))))))
 rintro _ w' ⟨rfl, s', O', hs, f, hw'⟩
 have P3 : Step w0 S p most long [.list l0, .bool b1, t2] [] s O w s' O' w' := P2.next hs f hw'
 replace hb := f.keep hb
 exact A2 fun a ha => AV V ha ⟨rfl, _, _, (Bs V).trans P3.en, P3.fr, P3.st⟩
theorem R4 {w0 : World} {S : Nat → Prop} {p most long : Nat} (t : T) : CC w0 S p most long 163 (.st .accum) t := by
 intro cs hr s O w hw hu
 obtain ⟨l, rfl, hlen, hF⟩ := hr.st_inv
 obtain ⟨t0, l, rfl, r0, hF⟩ := hF.cons_inv
 obtain ⟨t1, l, rfl, r1, hF⟩ := hF.cons_inv
 obtain ⟨t2, l, rfl, r2, hF⟩ := hF.cons_inv
 obtain rfl := hF.nil_inv
 simp only [Nat.reduceAdd, Ty.size, SN.size] at r0 r1 r2
 obtain ⟨x0, rfl, e0, i0⟩ := r0.str_inv
 obtain ⟨v2, e2⟩ := BD r2 rfl
 rw [e2] at r2
 obtain ⟨l2, rfl, _⟩ := r2.list_inv
 rw [BX] at hu
 refine AB 18 func163 V V V ?_
 refine Af (Aa (Cd V V (Ar [(0, ptr p), (3, ptr w.heap.size)] ⟨V, V, trivial⟩ ?_)))
 have hb := hw.own_new cs 151
 have hw1 := hw.alloc (.cells cs.toArray 151)
 have fb : Fr O w O (w.alloc (.cells cs.toArray 151)) := Fr.alloc _ _ _
 show W _ _ _ _ _ _ (w.alloc (.cells cs.toArray 151))
 generalize w.alloc (.cells cs.toArray 151) = w1 at hb hw1 fb ⊢
 have P0 : Step w0 S p most long [] [.str x0, t1, .list l2] s O w s O w1 := ⟨hw1, fb, rfl, by omega, rfl⟩
 refine Af (Aa (Ac rfl rfl (Ab rfl (Fx _ _ _) rfl (Ai rfl (A4 Cc (hb.cell1 e0)) rfl (Aj call151 rfl rfl (DW i0 _ _ _ P0.st P0.hd1) ?_ (fun _ _ h => by obtain ⟨_, h, _⟩ := h; simp only [enc] at h; cases h))))))
 rintro _ w' ⟨rfl, s', O', hs, f, hw'⟩
 have P1 : Step w0 S p most long [.str x0] [t1, .list l2] s O w s' O' w' := P0.next hs f hw'
 replace hb := f.keep hb
 refine Ar [(0, ptr p), (3, ptr w.heap.size)] ⟨V, V, trivial⟩ ?_
 refine Af (Aa (Ac V V (Ab V (Gv _ _ _) V (Ai V (Bg BY (Rep.one _ _ _ r1).1 (hb.blk.at_ 1 16)) V (Aj call209 V V (EU _ _ r1 _ _ _ P1.st P1.hd) ?_ (fun ch w' h a ha => Am (Av ha (P1.pan h (fun e => (Bs V).trans e)))))))))
 rintro _ w' ⟨rfl, s', O', hs, f, hw'⟩
 have P2 : Step w0 S p most long [.str x0, t1] [.list l2] s O w s' O' w' := P1.next hs f hw'
 replace hb := f.keep hb
 refine Ar [(0, ptr p), (3, ptr w.heap.size)] ⟨V, V, trivial⟩ ?_
 refine Aa (Ac V V (Ab V (CZ _ _ _) V (Ai V (A4 Fb (hb.cell1 e2)) V (Ac V V (AH V V V (Aj call216 V V (QV (fun t _ => QP t) _ r2 _ _ _ P2.st P2.hdl) ?_ (fun ch w' h a ha => Av ha (P2.pan h (fun e => (Bs V).trans e)))))))))
 rintro _ w' ⟨rfl, s', O', hs, f, hw'⟩
 have P3 : Step w0 S p most long [.str x0, t1, .list l2] [] s O w s' O' w' := P2.next hs f hw'
 replace hb := f.keep hb
 exact A2 fun a ha => AV V ha ⟨rfl, _, _, (Bs V).trans P3.en, P3.fr, P3.st⟩
theorem R0 {w0 : World} {S : Nat → Prop} {p most long : Nat} (t : T) : CC w0 S p most long 165 (.st .mode) t := by
 intro cs hr s O w hw hu
 obtain ⟨l, rfl, hlen, hF⟩ := hr.st_inv
 obtain ⟨t0, l, rfl, r0, hF⟩ := hF.cons_inv
 obtain ⟨t1, l, rfl, r1, hF⟩ := hF.cons_inv
 obtain ⟨t2, l, rfl, r2, hF⟩ := hF.cons_inv
 obtain ⟨t3, l, rfl, r3, hF⟩ := hF.cons_inv
 obtain ⟨t4, l, rfl, r4, hF⟩ := hF.cons_inv
 obtain ⟨t5, l, rfl, r5, hF⟩ := hF.cons_inv
 obtain rfl := hF.nil_inv
 simp only [Nat.reduceAdd, Ty.size] at r0 r1 r2 r3 r4 r5
 obtain ⟨x0, rfl, e0, i0⟩ := r0.str_inv
 obtain ⟨x1, rfl, e1, i1⟩ := r1.str_inv
 obtain ⟨b2, rfl, e2⟩ := r2.bool_inv
 obtain ⟨b3, rfl, e3⟩ := r3.bool_inv
 obtain ⟨x4, rfl, e4, i4⟩ := r4.str_inv
 obtain ⟨n5, rfl, e5, i5⟩ := r5.int_inv
 rw [BX] at hu
 refine AB 27 func165 V V V ?_
 refine Af (Aa (Cd V V (Ar [(0, ptr p), (3, ptr w.heap.size)] ⟨V, V, trivial⟩ ?_)))
 have hb := hw.own_new cs 84
 have hw1 := hw.alloc (.cells cs.toArray 84)
 have fb : Fr O w O (w.alloc (.cells cs.toArray 84)) := Fr.alloc _ _ _
 show W _ _ _ _ _ _ (w.alloc (.cells cs.toArray 84))
 generalize w.alloc (.cells cs.toArray 84) = w1 at hb hw1 fb ⊢
 have P0 : Step w0 S p most long [] [.str x0, .str x1, .bool b2, .bool b3, .str x4, .int n5] s O w s O w1 := ⟨hw1, fb, rfl, by omega, rfl⟩
 refine Af (Aa (Ac rfl rfl (Ab rfl (JO _ _ _) rfl (Ai rfl (A4 Cc (hb.cell1 e0)) rfl (Aj call151 rfl rfl (DW i0 _ _ _ P0.st P0.hd1) ?_ (fun _ _ h => by obtain ⟨_, h, _⟩ := h; simp only [enc] at h; cases h))))))
 rintro _ w' ⟨rfl, s', O', hs, f, hw'⟩
 have P1 : Step w0 S p most long [.str x0] [.str x1, .bool b2, .bool b3, .str x4, .int n5] s O w s' O' w' := P0.next hs f hw'
 replace hb := f.keep hb
 refine Ar [(0, ptr p), (3, ptr w.heap.size)] ⟨V, V, trivial⟩ ?_
 refine Af (Aa (Ac rfl rfl (Ab rfl (IQ _ _ _) rfl (Ai rfl (A4 Cc (hb.cell1 e1)) rfl (Aj call151 rfl rfl (DW i1 _ _ _ P1.st P1.hd1) ?_ (fun _ _ h => by obtain ⟨_, h, _⟩ := h; simp only [enc] at h; cases h))))))
 rintro _ w' ⟨rfl, s', O', hs, f, hw'⟩
 have P2 : Step w0 S p most long [.str x0, .str x1] [.bool b2, .bool b3, .str x4, .int n5] s O w s' O' w' := P1.next hs f hw'
 replace hb := f.keep hb
 refine Ar [(0, ptr p), (3, ptr w.heap.size)] ⟨V, V, trivial⟩ ?_
 refine Af (Aa (Ac V V (Ab V (JB _ _ _) V (Ai V (A4 Dp (hb.cell1 e2)) V (Ab V (J_ _ _ _) V (Ai V (A4 Dp (hb.cell1 e3)) V (A7 V (Dv underlying349 Ee zeroValue4 V V V) V ?_)))))))
 refine Aj call206 V V (Jl (ns := [b2, b3]) (P2.st.alloc _) (Step.hdb (ns := [b2, b3]) P2) (P2.st.own_new _ 4)) ?_ Be
 rintro _ w' ⟨rfl, O', f, hw'⟩
 replace f := (Fr.alloc _ _ _).trans f
 have P3 : Step w0 S p most long [.str x0, .str x1, .bool b2, .bool b3] [.str x4, .int n5] s O w _ O' w' := P2.bools (ns := [b2, b3]) f hw'
 replace hb := f.keep hb
 refine Ar [(0, ptr p), (3, ptr w.heap.size)] ⟨V, V, trivial⟩ ?_
 refine Af (Aa (Ac rfl rfl (Ab rfl (JF _ _ _) rfl (Ai rfl (A4 Cc (hb.cell1 e4)) rfl (Aj call151 rfl rfl (DW i4 _ _ _ P3.st P3.hd1) ?_ (fun _ _ h => by obtain ⟨_, h, _⟩ := h; simp only [enc] at h; cases h))))))
 rintro _ w' ⟨rfl, s', O', hs, f, hw'⟩
 have P4 : Step w0 S p most long [.str x0, .str x1, .bool b2, .bool b3, .str x4] [.int n5] s O w s' O' w' := P3.next hs f hw'
 replace hb := f.keep hb
 refine Ar [(0, ptr p), (3, ptr w.heap.size)] ⟨V, V, trivial⟩ ?_
 refine Aa (Ac rfl rfl (Ab rfl (JC _ _ _) rfl (Ai rfl (A4 Cj (hb.cell1 e5)) rfl (Aj call218 rfl rfl (Ms i5 _ _ _ P4.st P4.hd1) ?_ (fun _ _ h => by obtain ⟨_, h, _⟩ := h; simp only [enc] at h; cases h)))))
 rintro _ w' ⟨rfl, s', O', hs, f, hw'⟩
 have P5 : Step w0 S p most long [.str x0, .str x1, .bool b2, .bool b3, .str x4, .int n5] [] s O w s' O' w' := P4.next hs f hw'
 replace hb := f.keep hb
 exact A2 fun a ha => AV V ha ⟨rfl, _, _, (Bs V).trans P5.en, P5.fr, P5.st⟩
theorem Rm {w0 : World} {S : Nat → Prop} {p most long : Nat} (t : T) : CC w0 S p most long 167 (.st .output) t := by
 intro cs hr s O w hw hu
 obtain ⟨l, rfl, hlen, hF⟩ := hr.st_inv
 obtain ⟨t0, l, rfl, r0, hF⟩ := hF.cons_inv
 obtain ⟨t1, l, rfl, r1, hF⟩ := hF.cons_inv
 obtain ⟨t2, l, rfl, r2, hF⟩ := hF.cons_inv
 obtain ⟨t3, l, rfl, r3, hF⟩ := hF.cons_inv
 obtain ⟨t4, l, rfl, r4, hF⟩ := hF.cons_inv
 obtain rfl := hF.nil_inv
 simp only [Nat.reduceAdd, Ty.size] at r0 r1 r2 r3 r4
 obtain ⟨x0, rfl, e0, i0⟩ := r0.str_inv
 obtain ⟨x1, rfl, e1, i1⟩ := r1.str_inv
 obtain ⟨b2, rfl, e2⟩ := r2.bool_inv
 obtain ⟨b3, rfl, e3⟩ := r3.bool_inv
 obtain ⟨v4, e4⟩ := BD r4 rfl
 rw [e4] at r4
 obtain ⟨l4, rfl, _⟩ := r4.list_inv
 rw [BX] at hu
 refine AB 25 func167 V V V ?_
 refine Af (Aa (Cd V V (Ar [(0, ptr p), (3, ptr w.heap.size)] ⟨V, V, trivial⟩ ?_)))
 have hb := hw.own_new cs 157
 have hw1 := hw.alloc (.cells cs.toArray 157)
 have fb : Fr O w O (w.alloc (.cells cs.toArray 157)) := Fr.alloc _ _ _
 show W _ _ _ _ _ _ (w.alloc (.cells cs.toArray 157))
 generalize w.alloc (.cells cs.toArray 157) = w1 at hb hw1 fb ⊢
 have P0 : Step w0 S p most long [] [.str x0, .str x1, .bool b2, .bool b3, .list l4] s O w s O w1 := ⟨hw1, fb, rfl, by omega, rfl⟩
 refine Af (Aa (Ac rfl rfl (Ab rfl (Fq _ _ _) rfl (Ai rfl (A4 Cc (hb.cell1 e0)) rfl (Aj call151 rfl rfl (DW i0 _ _ _ P0.st P0.hd1) ?_ (fun _ _ h => by obtain ⟨_, h, _⟩ := h; simp only [enc] at h; cases h))))))
 rintro _ w' ⟨rfl, s', O', hs, f, hw'⟩
 have P1 : Step w0 S p most long [.str x0] [.str x1, .bool b2, .bool b3, .list l4] s O w s' O' w' := P0.next hs f hw'
 replace hb := f.keep hb
 refine Ar [(0, ptr p), (3, ptr w.heap.size)] ⟨V, V, trivial⟩ ?_
 refine Af (Aa (Ac rfl rfl (Ab rfl (FK _ _ _) rfl (Ai rfl (A4 Cc (hb.cell1 e1)) rfl (Aj call151 rfl rfl (DW i1 _ _ _ P1.st P1.hd1) ?_ (fun _ _ h => by obtain ⟨_, h, _⟩ := h; simp only [enc] at h; cases h))))))
 rintro _ w' ⟨rfl, s', O', hs, f, hw'⟩
 have P2 : Step w0 S p most long [.str x0, .str x1] [.bool b2, .bool b3, .list l4] s O w s' O' w' := P1.next hs f hw'
 replace hb := f.keep hb
 refine Ar [(0, ptr p), (3, ptr w.heap.size)] ⟨V, V, trivial⟩ ?_
 refine Af (Aa (Ac V V (Ab V (Gj _ _ _) V (Ai V (A4 Dp (hb.cell1 e2)) V (Ab V (Gd _ _ _) V (Ai V (A4 Dp (hb.cell1 e3)) V (A7 V (Dv underlying349 Ee zeroValue4 V V V) V ?_)))))))
 refine Aj call206 V V (Jl (ns := [b2, b3]) (P2.st.alloc _) (Step.hdb (ns := [b2, b3]) P2) (P2.st.own_new _ 4)) ?_ Be
 rintro _ w' ⟨rfl, O', f, hw'⟩
 replace f := (Fr.alloc _ _ _).trans f
 have P3 : Step w0 S p most long [.str x0, .str x1, .bool b2, .bool b3] [.list l4] s O w _ O' w' := P2.bools (ns := [b2, b3]) f hw'
 replace hb := f.keep hb
 refine Ar [(0, ptr p), (3, ptr w.heap.size)] ⟨V, V, trivial⟩ ?_
 refine Aa (Ac V V (Ab V (FD _ _ _) V (Ai V (A4 D_ (hb.cell1 e4)) V (Ac V V (AH V V V (Aj call210 V V (O_ (fun t _ => PB t) _ r4 _ _ _ P3.st P3.hdl) ?_ (fun ch w' h a ha => Av ha (P3.pan h (fun e => (Bs V).trans e)))))))))
 rintro _ w' ⟨rfl, s', O', hs, f, hw'⟩
 have P4 : Step w0 S p most long [.str x0, .str x1, .bool b2, .bool b3, .list l4] [] s O w s' O' w' := P3.next hs f hw'
 replace hb := f.keep hb
 exact A2 fun a ha => AV V ha ⟨rfl, _, _, (Bs V).trans P4.en, P4.fr, P4.st⟩
theorem QI {w0 : World} {S : Nat → Prop} {p most long : Nat} (t : T) : CC w0 S p most long 220 (.st .swap) t := by
 intro cs hr s O w hw hu
 obtain ⟨l, rfl, hlen, hF⟩ := hr.st_inv
 obtain ⟨t0, l, rfl, r0, hF⟩ := hF.cons_inv
 obtain ⟨t1, l, rfl, r1, hF⟩ := hF.cons_inv
 obtain rfl := hF.nil_inv
 simp only [Nat.reduceAdd, Ty.size] at r0 r1
 obtain ⟨n0, rfl, e0, i0⟩ := r0.int_inv
 obtain ⟨x1, rfl, e1, i1⟩ := r1.str_inv
 rw [BX] at hu
 refine AB 12 func220 V V V ?_
 refine Af (Aa (Cd V V (Ar [(0, ptr p), (3, ptr w.heap.size)] ⟨V, V, trivial⟩ ?_)))
 have hb := hw.own_new cs 170
 have hw1 := hw.alloc (.cells cs.toArray 170)
 have fb : Fr O w O (w.alloc (.cells cs.toArray 170)) := Fr.alloc _ _ _
 show W _ _ _ _ _ _ (w.alloc (.cells cs.toArray 170))
 generalize w.alloc (.cells cs.toArray 170) = w1 at hb hw1 fb ⊢
 have P0 : Step w0 S p most long [] [.int n0, .str x1] s O w s O w1 := ⟨hw1, fb, rfl, by omega, rfl⟩
 refine Af (Aa (Ac rfl rfl (Ab rfl (I5 _ _ _) rfl (Ai rfl (A4 Cj (hb.cell1 e0)) rfl (Aj call218 rfl rfl (Ms i0 _ _ _ P0.st P0.hd1) ?_ (fun _ _ h => by obtain ⟨_, h, _⟩ := h; simp only [enc] at h; cases h))))))
 rintro _ w' ⟨rfl, s', O', hs, f, hw'⟩
 have P1 : Step w0 S p most long [.int n0] [.str x1] s O w s' O' w' := P0.next hs f hw'
 replace hb := f.keep hb
 refine Ar [(0, ptr p), (3, ptr w.heap.size)] ⟨V, V, trivial⟩ ?_
 refine Aa (Ac rfl rfl (Ab rfl (I1 _ _ _) rfl (Ai rfl (A4 Cc (hb.cell1 e1)) rfl (Aj call151 rfl rfl (DW i1 _ _ _ P1.st P1.hd1) ?_ (fun _ _ h => by obtain ⟨_, h, _⟩ := h; simp only [enc] at h; cases h)))))
 rintro _ w' ⟨rfl, s', O', hs, f, hw'⟩
 have P2 : Step w0 S p most long [.int n0, .str x1] [] s O w s' O' w' := P1.next hs f hw'
 replace hb := f.keep hb
 exact A2 fun a ha => AV V ha ⟨rfl, _, _, (Bs V).trans P2.en, P2.fr, P2.st⟩
theorem Rg {w0 : World} {S : Nat → Prop} {p most long : Nat} (t : T) : CC w0 S p most long 169 (.st .charMap) t := by
 intro cs hr s O w hw hu
 obtain ⟨l, rfl, hlen, hF⟩ := hr.st_inv
 obtain ⟨t0, l, rfl, r0, hF⟩ := hF.cons_inv
 obtain ⟨t1, l, rfl, r1, hF⟩ := hF.cons_inv
 obtain rfl := hF.nil_inv
 simp only [Nat.reduceAdd, Ty.size] at r0 r1
 obtain ⟨x0, rfl, e0, i0⟩ := r0.str_inv
 obtain ⟨v1, e1⟩ := BD r1 rfl
 rw [e1] at r1
 obtain ⟨l1, rfl, _⟩ := r1.list_inv
 rw [BX] at hu
 refine AB 14 func169 V V V ?_
 refine Af (Aa (Cd V V (Ar [(0, ptr p), (3, ptr w.heap.size)] ⟨V, V, trivial⟩ ?_)))
 have hb := hw.own_new cs 162
 have hw1 := hw.alloc (.cells cs.toArray 162)
 have fb : Fr O w O (w.alloc (.cells cs.toArray 162)) := Fr.alloc _ _ _
 show W _ _ _ _ _ _ (w.alloc (.cells cs.toArray 162))
 generalize w.alloc (.cells cs.toArray 162) = w1 at hb hw1 fb ⊢
 have P0 : Step w0 S p most long [] [.str x0, .list l1] s O w s O w1 := ⟨hw1, fb, rfl, by omega, rfl⟩
 refine Af (Aa (Ac rfl rfl (Ab rfl (Fz _ _ _) rfl (Ai rfl (A4 Cc (hb.cell1 e0)) rfl (Aj call151 rfl rfl (DW i0 _ _ _ P0.st P0.hd1) ?_ (fun _ _ h => by obtain ⟨_, h, _⟩ := h; simp only [enc] at h; cases h))))))
 rintro _ w' ⟨rfl, s', O', hs, f, hw'⟩
 have P1 : Step w0 S p most long [.str x0] [.list l1] s O w s' O' w' := P0.next hs f hw'
 replace hb := f.keep hb
 refine Ar [(0, ptr p), (3, ptr w.heap.size)] ⟨V, V, trivial⟩ ?_
 refine Aa (Ac V V (Ab V (Dg _ _ _) V (Ai V (A4 Fp (hb.cell1 e1)) V (Ac V V (AH V V V (Aj call219 V V (Rc (fun t _ => QI t) _ r1 _ _ _ P1.st P1.hdl) ?_ (fun ch w' h a ha => Av ha (P1.pan h (fun e => (Bs V).trans e)))))))))
 rintro _ w' ⟨rfl, s', O', hs, f, hw'⟩
 have P2 : Step w0 S p most long [.str x0, .list l1] [] s O w s' O' w' := P1.next hs f hw'
 replace hb := f.keep hb
 exact A2 fun a ha => AV V ha ⟨rfl, _, _, (Bs V).trans P2.en, P2.fr, P2.st⟩
end Go.Sx
namespace Go.Sx
open Go.Proofs Go.Proofs.Tryz
theorem Co {P : Program} {w : World} {op : BinOp} {t : TypeId} {x y : Operand} {a b : Option Addr} : (eqGuard op t x y (.pointer a) (.pointer b)).run P w = .ok () w := by
 unfold eqGuard; cases op <;> rfl
theorem Jt {P : Program} {w : World} {t e : TypeId} {a : Option Addr} {d : Nat} (ht : ∀ w, (underlying t).run P w = .ok (.pointer e) w) :
 (Op.equalIn (d + 1) t (.pointer a) (.pointer none)).run P w = .ok a.isNone w := by
 cases a <;> simp [Op.equalIn, ht]
theorem EY {P : Program} {w : World} {t e : TypeId} {a : Option Addr} (ht : ∀ w, (underlying t).run P w = .ok (.pointer e) w) :
 (binOp .neq t (.pointer a) (.pointer none)).run P w = .ok (.bool (!a.isNone)) w := by
 have h1 : binOp .neq t (.pointer a) (.pointer none) = (do pure (.bool (!(← Op.equal t (.pointer a) (.pointer none))))) := rfl
 have h2 : (Op.equal t (.pointer a) (.pointer none)).run P w = .ok a.isNone w := Jt (d := 9999) ht
 rw [h1]
 simp only [Sem.run_bind, h2, Result.andThen_ok, Sem.run_pure]
theorem EG {w : World} : (binOp .neq 46 (.pointer none) (.pointer none)).run prog w = .ok (.bool false) w := EY runUnderlying46
theorem E8 {w : World} {b o : Nat} : (binOp .neq 46 (.pointer (some ⟨b, o, none⟩)) (.pointer none)).run prog w = .ok (.bool true) w := EY runUnderlying46
theorem Cp {w0 : World} {S : Nat → Prop} {p most long : Nat} {N : Nat} (ih : ∀ t', t'.wt < N → CC w0 S p most long 96 (.st .sheet) t') (t : T) (hN : t.wt ≤ N) : CC w0 S p most long 153 (.st .use) t := by
 intro cs hr s O w hw hu
 obtain ⟨l, rfl, hlen, hF⟩ := hr.st_inv
 obtain ⟨t0, l, rfl, r0, hF⟩ := hF.cons_inv
 obtain ⟨t1, l, rfl, r1, hF⟩ := hF.cons_inv
 obtain ⟨t2, l, rfl, r2, hF⟩ := hF.cons_inv
 obtain ⟨t3, l, rfl, r3, hF⟩ := hF.cons_inv
 obtain rfl := hF.nil_inv
 simp only [Nat.reduceAdd, Ty.size] at r0 r1 r2 r3
 obtain ⟨x0, rfl, e0, i0⟩ := r0.str_inv
 obtain ⟨n2, rfl, e2, i2⟩ := r2.int_inv
 obtain ⟨n3, rfl, e3, i3⟩ := r3.int_inv
 rw [BX] at hu
 refine AB 30 func153 V V V ?_
 refine Af (Aa (Cd V V (Ar [(0, ptr p), (3, ptr w.heap.size)] ⟨V, V, trivial⟩ ?_)))
 have hb := hw.own_new cs 48
 have hw1 := hw.alloc (.cells cs.toArray 48)
 have fb : Fr O w O (w.alloc (.cells cs.toArray 48)) := Fr.alloc _ _ _
 show W _ _ _ _ _ _ (w.alloc (.cells cs.toArray 48))
 generalize w.alloc (.cells cs.toArray 48) = w1 at hb hw1 fb ⊢
 have P0 : Step w0 S p most long [] [.str x0, t1, .int n2, .int n3] s O w s O w1 := ⟨hw1, fb, rfl, by omega, rfl⟩
 refine Af (Aa (Ac rfl rfl (Ab rfl (G0 _ _ _) rfl (Ai rfl (A4 Cc (hb.cell1 e0)) rfl (Aj call151 rfl rfl (DW i0 _ _ _ P0.st P0.hd1) ?_ (fun _ _ h => by obtain ⟨_, h, _⟩ := h; simp only [enc] at h; cases h))))))
 rintro _ w' ⟨rfl, s', O', hs, f, hw'⟩
 have P1 : Step w0 S p most long [.str x0] [t1, .int n2, .int n3] s O w s' O' w' := P0.next hs f hw'
 replace hb := f.keep hb
 refine Ar [(0, ptr p), (3, ptr w.heap.size)] ⟨V, V, trivial⟩ ?_
 rcases r1.ptr_inv with ⟨rfl, e1⟩ | ⟨t', b, o, dd, rfl, e1, hS, hbl, hat, hlen', hrep⟩
 · refine Af (Aa (Ac V V (Ab V (C3 _ _ _) V (Ai V (A4 E9 (hb.cell1 e1)) V (AG V V Co EG V (A7 V (CT underlying349 Ee zeroValue4 V V) V ?_))))))
   refine Aj call206 V V (Jl (ns := [false]) (P1.st.alloc _) P1.hd1 (P1.st.own_new _ 4)) ?_ Be
   rintro _ w2 ⟨rfl, O2, f2, hw2⟩
   replace f2 := (Fr.alloc _ _ _).trans f2
   have P2 : Step w0 S p most long [.str x0, .nil] [.int n2, .int n3] s O w _ O2 w2 := P1.next (s2 := s'.num 0) (by simp only [enc]) f2 hw2
   replace hb := f2.keep hb
   refine Ar [(0, ptr p), (3, ptr w.heap.size)] ⟨V, V, trivial⟩ ?_
   refine Af (Af (Aa (Ab V (C3 _ _ _) V (Ai V (A4 E9 (hb.cell1 e1)) V (AG V V Co EG V (Ae (A9 V (A_ fun a ha => Ad ?_))))))))
   refine A8 ha (Aa (Ac V V (Ab V (EX _ _ _) V (Ai V (A4 Cj (hb.cell1 e2)) V (Ab V (Fc _ _ _) V (Ai V (A4 Cj (hb.cell1 e3)) V (A7 V (Dv underlying262 Hm zeroValue3 V V V) V ?_)))))))
   refine Aj call207 V V (LA (ns := [n2, n3]) (LB i2 i3) (P2.st.alloc _) (Step.hdi (ns := [n2, n3]) P2) (P2.st.own_new _ 3)) ?_ Be
   rintro _ w3 ⟨rfl, O3, f3, hw3⟩
   replace f3 := (Fr.alloc _ _ _).trans f3
   have P3 : Step w0 S p most long [.str x0, .nil, .int n2, .int n3] [] s O w _ O3 w3 := P2.ints (ns := [n2, n3]) f3 hw3
   exact A2 fun a ha => AV V ha ⟨rfl, _, _, (Bs V).trans P3.en, P3.fr, P3.st⟩
 · refine Af (Aa (Ac V V (Ab V (C3 _ _ _) V (Ai V (A4 E9 (hb.cell1 e1)) V (AG V V Co E8 V (A7 V (CT underlying349 Ee zeroValue4 V V) V ?_))))))
   refine Aj call206 V V (Jl (ns := [true]) (P1.st.alloc _) P1.hd1 (P1.st.own_new _ 4)) ?_ Be
   rintro _ w2 ⟨rfl, O2, f2, hw2⟩
   replace f2 := (Fr.alloc _ _ _).trans f2
   replace hb := f2.keep hb
   have hus := Bq (s := s') (n := 1) (by decide)
   have hhd := P1.hd
   rw [L9] at hhd
   refine Ar [(0, ptr p), (3, ptr w.heap.size)] ⟨V, V, trivial⟩ ?_
   refine Af (Af (Aa (Ab V (C3 _ _ _) V (Ai V (A4 E9 (hb.cell1 e1)) V (AG V V Co E8 V (Ae (Ax V ?_)))))))
   refine Aa (Ac V V (Ab V (C3 _ _ _) V (Ai V (A4 E9 (hb.cell1 e1)) V (As V V (Ai V (Bg EE hlen' (Cs hw2 hS hbl hat)) V (Aj call96 V V (ih t' (Nat.lt_of_lt_of_le (by rw [L9]; omega) (Nat.le_of_lt (Q5 hN (i := 1) V))) _ hrep _ _ _ hw2 (by show (s'.num 1).use + _ ≤ _; omega)) ?_ ?_))))))
   · rintro _ w3 ⟨rfl, s3, O3, hs3, f3, hw3⟩
     have P2 : Step w0 S p most long [.str x0, .ptr t'] [.int n2, .int n3] s O w s3 O3 w3 := P1.next (by simp only [enc]; exact hs3) (f2.trans f3) hw3
     replace hb := f3.keep hb
     refine A2 fun a ha => Ad ?_
     refine A8 ha (Aa (Ac V V (Ab V (EX _ _ _) V (Ai V (A4 Cj (hb.cell1 e2)) V (Ab V (Fc _ _ _) V (Ai V (A4 Cj (hb.cell1 e3)) V (A7 V (Dv underlying262 Hm zeroValue3 V V V) V ?_)))))))
     refine Aj call207 V V (LA (ns := [n2, n3]) (LB i2 i3) (P2.st.alloc _) (Step.hdi (ns := [n2, n3]) P2) (P2.st.own_new _ 3)) ?_ Be
     rintro _ w4 ⟨rfl, O4, f4, hw4⟩
     replace f4 := (Fr.alloc _ _ _).trans f4
     have P3 : Step w0 S p most long [.str x0, .ptr t', .int n2, .int n3] [] s O w _ O4 w4 := P2.ints (ns := [n2, n3]) f4 hw4
     exact A2 fun a ha => AV V ha ⟨rfl, _, _, (Bs V).trans P3.en, P3.fr, P3.st⟩
   · rintro ch w3 ⟨rfl, h1, s3, O3, f3, hw3, hn1, hn2⟩ a ha
     have hp : Mp w0 S p most long O' w' (enc most long (.ptr t') s') s'.nest CL w3 := ⟨rfl, by simp only [enc]; exact h1, s3, O3, f2.trans f3, hw3, hn1, hn2⟩
     exact Am (Av ha (P1.pan hp (fun e => (Bs V).trans e)))
end Go.Sx
namespace Go.Sx
open Go.Proofs Go.Proofs.Tryz
theorem Sp {w0 : World} {S : Nat → Prop} {p most long : Nat} {N : Nat} (ih : ∀ t', t'.wt < N → CC w0 S p most long 96 (.st .sheet) t') (t : T) (hN : t.wt ≤ N) : CC w0 S p most long 96 (.st .sheet) t := by
 intro cs hr s O w hw hu
 obtain ⟨l, rfl, hlen, hF⟩ := hr.st_inv
 obtain ⟨t0, l, rfl, r0, hF⟩ := hF.cons_inv
 obtain ⟨t1, l, rfl, r1, hF⟩ := hF.cons_inv
 obtain ⟨t2, l, rfl, r2, hF⟩ := hF.cons_inv
 obtain ⟨t3, l, rfl, r3, hF⟩ := hF.cons_inv
 obtain ⟨t4, l, rfl, r4, hF⟩ := hF.cons_inv
 obtain ⟨t5, l, rfl, r5, hF⟩ := hF.cons_inv
 obtain ⟨t6, l, rfl, r6, hF⟩ := hF.cons_inv
 obtain ⟨t7, l, rfl, r7, hF⟩ := hF.cons_inv
 obtain ⟨t8, l, rfl, r8, hF⟩ := hF.cons_inv
 obtain ⟨t9, l, rfl, r9, hF⟩ := hF.cons_inv
 obtain rfl := hF.nil_inv
 simp only [Nat.reduceAdd, Ty.size] at r0 r1 r2 r3 r4 r5 r6 r7 r8 r9
 obtain ⟨x0, rfl, e0, i0⟩ := r0.str_inv
 obtain ⟨v1, e1⟩ := BD r1 rfl
 rw [e1] at r1
 obtain ⟨l1, rfl, _⟩ := r1.list_inv
 obtain ⟨v2, e2⟩ := BD r2 rfl
 rw [e2] at r2
 obtain ⟨l2, rfl, _⟩ := r2.list_inv
 obtain ⟨v3, e3⟩ := BD r3 rfl
 rw [e3] at r3
 obtain ⟨l3, rfl, _⟩ := r3.list_inv
 obtain ⟨v4, e4⟩ := BD r4 rfl
 rw [e4] at r4
 obtain ⟨l4, rfl, _⟩ := r4.list_inv
 obtain ⟨v5, e5⟩ := BD r5 rfl
 rw [e5] at r5
 obtain ⟨l5, rfl, _⟩ := r5.list_inv
 obtain ⟨v6, e6⟩ := BD r6 rfl
 rw [e6] at r6
 obtain ⟨l6, rfl, _⟩ := r6.list_inv
 obtain ⟨v7, e7⟩ := BD r7 rfl
 rw [e7] at r7
 obtain ⟨l7, rfl, _⟩ := r7.list_inv
 obtain ⟨v8, e8⟩ := BD r8 rfl
 rw [e8] at r8
 obtain ⟨l8, rfl, _⟩ := r8.list_inv
 obtain ⟨v9, e9⟩ := BD r9 rfl
 rw [e9] at r9
 obtain ⟨l9, rfl, _⟩ := r9.list_inv
 rw [BX] at hu
 refine Eu 64 func96 V V V ?_
 refine Af (Aa (Cd V V (Ar [(0, ptr p), (3, ptr w.heap.size)] ⟨V, V, trivial⟩ ?_)))
 have hb := hw.own_new cs 36
 have hw1 := hw.alloc (.cells cs.toArray 36)
 have fb : Fr O w O (w.alloc (.cells cs.toArray 36)) := Fr.alloc _ _ _
 show W _ _ _ _ _ _ (w.alloc (.cells cs.toArray 36))
 generalize w.alloc (.cells cs.toArray 36) = w1 at hb hw1 fb ⊢
 refine Af (Aa (Ac V V (Aj call150 V V (Pm hw1 (by omega)) ?_ ?_)))
 rotate_left
 · rintro ch w2 ⟨rfl, ho, O2, f2, hw2⟩ a ha
   exact Am (Ed ha ⟨rfl, GG V ho, _, O2, fb.trans f2, hw2, Nat.lt_succ_self _, by show s.nest + 1 ≤ _; simp only [WS.use] at hu; omega⟩)
 rintro _ w2 ⟨hno, bx, O2, rfl, hx, _, f2, hw2⟩
 replace hb := f2.keep hb
 refine Es V (Ar [(0, ptr p), (3, ptr w.heap.size)] ⟨V, V, trivial⟩ ?_)
 have hu0 : ({ s with nest := s.nest + 1 } : WS).use = s.use + 1 := by simp only [WS.use]; omega
 have P0 : Step w0 S p most long [] [.str x0, .list l1, .list l2, .list l3, .list l4, .list l5, .list l6, .list l7, .list l8, .list l9] { s with nest := s.nest + 1 } O w { s with nest := s.nest + 1 } O2 w2 := ⟨hw2, fb.trans f2, rfl, by rw [hu0]; omega, rfl⟩
 refine Af (Aa (Ac rfl rfl (Ab rfl (G_ _ _ _) rfl (Ai rfl (A4 Cc (hb.cell1 e0)) rfl (Aj call151 rfl rfl (DW i0 _ _ _ P0.st P0.hd1) ?_ (fun _ _ h => by obtain ⟨_, h, _⟩ := h; simp only [enc] at h; cases h))))))
 rintro _ w' ⟨rfl, s', O', hs, f, hw'⟩
 have P1 : Step w0 S p most long [.str x0] [.list l1, .list l2, .list l3, .list l4, .list l5, .list l6, .list l7, .list l8, .list l9] { s with nest := s.nest + 1 } O w s' O' w' := P0.next hs f hw'
 replace hb := f.keep hb
 replace hx := f.keep hx
 refine Ar [(0, ptr p), (3, ptr w.heap.size)] ⟨V, V, trivial⟩ ?_
 refine Af (Aa (Ac V V (Ab V (CQ _ _ _) V (Ai V (A4 Fl (hb.cell1 e1)) V (Ac V V (AH V V V (Aj call152 V V (QH (fun t' ht => Cp ih t' (Nat.le_of_lt (D0 hN (i := 1) V ht))) _ r1 _ _ _ P1.st P1.hdl) ?_ (fun ch w' h a ha => Am (Bb ha (P1.panD hx V h V))))))))))
 rintro _ w' ⟨rfl, s', O', hs, f, hw'⟩
 have P2 : Step w0 S p most long [.str x0, .list l1] [.list l2, .list l3, .list l4, .list l5, .list l6, .list l7, .list l8, .list l9] { s with nest := s.nest + 1 } O w s' O' w' := P1.next hs f hw'
 replace hb := f.keep hb
 replace hx := f.keep hx
 refine Ar [(0, ptr p), (3, ptr w.heap.size)] ⟨V, V, trivial⟩ ?_
 refine Af (Aa (Ac V V (Ab V (G6 _ _ _) V (Ai V (A4 KY (hb.cell1 e2)) V (Ac V V (AH V V V (Aj call154 V V (R6 (fun t _ => QO t) _ r2 _ _ _ P2.st P2.hdl) ?_ (fun ch w' h a ha => Am (Bb ha (P2.panD hx V h V))))))))))
 rintro _ w' ⟨rfl, s', O', hs, f, hw'⟩
 have P3 : Step w0 S p most long [.str x0, .list l1, .list l2] [.list l3, .list l4, .list l5, .list l6, .list l7, .list l8, .list l9] { s with nest := s.nest + 1 } O w s' O' w' := P2.next hs f hw'
 replace hb := f.keep hb
 replace hx := f.keep hx
 refine Ar [(0, ptr p), (3, ptr w.heap.size)] ⟨V, V, trivial⟩ ?_
 refine Af (Aa (Ac V V (Ab V (GF _ _ _) V (Ai V (A4 Lg (hb.cell1 e3)) V (Ac V V (AH V V V (Aj call156 V V (R2 (fun t _ => Ry t) _ r3 _ _ _ P3.st P3.hdl) ?_ (fun ch w' h a ha => Am (Bb ha (P3.panD hx V h V))))))))))
 rintro _ w' ⟨rfl, s', O', hs, f, hw'⟩
 have P4 : Step w0 S p most long [.str x0, .list l1, .list l2, .list l3] [.list l4, .list l5, .list l6, .list l7, .list l8, .list l9] { s with nest := s.nest + 1 } O w s' O' w' := P3.next hs f hw'
 replace hb := f.keep hb
 replace hx := f.keep hx
 refine Ar [(0, ptr p), (3, ptr w.heap.size)] ⟨V, V, trivial⟩ ?_
 refine Af (Aa (Ac V V (Ab V (GD _ _ _) V (Ai V (A4 KX (hb.cell1 e4)) V (Ac V V (AH V V V (Aj call158 V V (QM (fun t _ => R1 t) _ r4 _ _ _ P4.st P4.hdl) ?_ (fun ch w' h a ha => Am (Bb ha (P4.panD hx V h V))))))))))
 rintro _ w' ⟨rfl, s', O', hs, f, hw'⟩
 have P5 : Step w0 S p most long [.str x0, .list l1, .list l2, .list l3, .list l4] [.list l5, .list l6, .list l7, .list l8, .list l9] { s with nest := s.nest + 1 } O w s' O' w' := P4.next hs f hw'
 replace hb := f.keep hb
 replace hx := f.keep hx
 refine Ar [(0, ptr p), (3, ptr w.heap.size)] ⟨V, V, trivial⟩ ?_
 refine Af (Aa (Ac V V (Ab V (DY _ _ _) V (Ai V (A4 Kn (hb.cell1 e5)) V (Ac V V (AH V V V (Aj call160 V V (Rf (fun t _ => QU t) _ r5 _ _ _ P5.st P5.hdl) ?_ (fun ch w' h a ha => Am (Bb ha (P5.panD hx V h V))))))))))
 rintro _ w' ⟨rfl, s', O', hs, f, hw'⟩
 have P6 : Step w0 S p most long [.str x0, .list l1, .list l2, .list l3, .list l4, .list l5] [.list l6, .list l7, .list l8, .list l9] { s with nest := s.nest + 1 } O w s' O' w' := P5.next hs f hw'
 replace hb := f.keep hb
 replace hx := f.keep hx
 refine Ar [(0, ptr p), (3, ptr w.heap.size)] ⟨V, V, trivial⟩ ?_
 refine Af (Aa (Ac V V (Ab V (Dm _ _ _) V (Ai V (A4 GW (hb.cell1 e6)) V (Ac V V (AH V V V (Aj call162 V V (R7 (fun t _ => R4 t) _ r6 _ _ _ P6.st P6.hdl) ?_ (fun ch w' h a ha => Am (Bb ha (P6.panD hx V h V))))))))))
 rintro _ w' ⟨rfl, s', O', hs, f, hw'⟩
 have P7 : Step w0 S p most long [.str x0, .list l1, .list l2, .list l3, .list l4, .list l5, .list l6] [.list l7, .list l8, .list l9] { s with nest := s.nest + 1 } O w s' O' w' := P6.next hs f hw'
 replace hb := f.keep hb
 replace hx := f.keep hx
 refine Ar [(0, ptr p), (3, ptr w.heap.size)] ⟨V, V, trivial⟩ ?_
 refine Af (Aa (Ac V V (Ab V (CO _ _ _) V (Ai V (A4 GV (hb.cell1 e7)) V (Ac V V (AH V V V (Aj call164 V V (QN (fun t _ => R0 t) _ r7 _ _ _ P7.st P7.hdl) ?_ (fun ch w' h a ha => Am (Bb ha (P7.panD hx V h V))))))))))
 rintro _ w' ⟨rfl, s', O', hs, f, hw'⟩
 have P8 : Step w0 S p most long [.str x0, .list l1, .list l2, .list l3, .list l4, .list l5, .list l6, .list l7] [.list l8, .list l9] { s with nest := s.nest + 1 } O w s' O' w' := P7.next hs f hw'
 replace hb := f.keep hb
 replace hx := f.keep hx
 refine Ar [(0, ptr p), (3, ptr w.heap.size)] ⟨V, V, trivial⟩ ?_
 refine Af (Aa (Ac V V (Ab V (D8 _ _ _) V (Ai V (A4 Jm (hb.cell1 e8)) V (Ac V V (AH V V V (Aj call166 V V (QJ (fun t _ => Rm t) _ r8 _ _ _ P8.st P8.hdl) ?_ (fun ch w' h a ha => Am (Bb ha (P8.panD hx V h V))))))))))
 rintro _ w' ⟨rfl, s', O', hs, f, hw'⟩
 have P9 : Step w0 S p most long [.str x0, .list l1, .list l2, .list l3, .list l4, .list l5, .list l6, .list l7, .list l8] [.list l9] { s with nest := s.nest + 1 } O w s' O' w' := P8.next hs f hw'
 replace hb := f.keep hb
 replace hx := f.keep hx
 refine Ar [(0, ptr p), (3, ptr w.heap.size)] ⟨V, V, trivial⟩ ?_
 refine Aa (Ac V V (Ab V (D4 _ _ _) V (Ai V (A4 Je (hb.cell1 e9)) V (Ac V V (AH V V V (Aj call168 V V (QT (fun t _ => Rg t) _ r9 _ _ _ P9.st P9.hdl) ?_ (fun ch w' h a ha => Bb ha (P9.panD hx V h V))))))))
 rintro _ w' ⟨rfl, s', O', hs, f, hw'⟩
 have P10 : Step w0 S p most long [.str x0, .list l1, .list l2, .list l3, .list l4, .list l5, .list l6, .list l7, .list l8, .list l9] [] { s with nest := s.nest + 1 } O w s' O' w' := P9.next hs f hw'
 replace hb := f.keep hb
 replace hx := f.keep hx
 exact A2 fun a ha => Jb ha (P10.endD V hx V hno V)
theorem Pj {w0 : World} {S : Nat → Prop} {p most long : Nat} (t : T) : CC w0 S p most long 96 (.st .sheet) t := by
 have key : ∀ (N : Nat) (t : T), t.wt ≤ N → CC w0 S p most long 96 (.st .sheet) t := by
  intro N
  induction N with
  | zero => intro t h; have := t.wt_pos; omega
  | succ N ih => intro t h; exact Sp (N := N + 1) (fun t' h' => ih t' (by omega)) t h
 exact key _ t (Nat.le_refl _)
end Go.Sx
namespace Go.Sx
def JR : BitVec 32 := 0xEDB88320#32
def O5 (x : BitVec 32) : BitVec 32 := (x >>> 1) ^^^ (-(x &&& 1#32) &&& JR)
def E1 : Nat → BitVec 32 → BitVec 32
 | 0, x => x
 | n + 1, x => O5 (E1 n x)
def Q8 (r : BitVec 32) (c : UInt8) : BitVec 32 := E1 8 (r ^^^ BitVec.ofNat 32 c.toNat)
def DM (r : BitVec 32) : List UInt8 → BitVec 32
 | [] => r
 | c :: l => DM (Q8 r c) l
def Pd (l : List UInt8) : BitVec 32 := ~~~ DM (BitVec.allOnes 32) l
theorem GC : ∀ (l : List UInt8) (r : BitVec 32) (c : UInt8), DM r (l ++ [c]) = Q8 (DM r l) c
 | [], _, _ => rfl
 | d :: l, r, c => GC l (Q8 r d) c
theorem IY (x : BitVec 32) : x &&& 1#32 = 0#32 ∨ x &&& 1#32 = 1#32 := by
 have h : (x &&& 1#32).toNat = x.toNat % 2 := by simp [BitVec.toNat_and]
 rcases Nat.mod_two_eq_zero_or_one x.toNat with h1 | h1
 · left; apply BitVec.eq_of_toNat_eq; rw [h, h1]; rfl
 · right; apply BitVec.eq_of_toNat_eq; rw [h, h1]; rfl
theorem J5 (x y z : BitVec 32) : (x ^^^ y) &&& z = (x &&& z) ^^^ (y &&& z) := by
 ext i hi
 simp only [BitVec.getElem_and, BitVec.getElem_xor]
 cases x[i] <;> cases y[i] <;> cases z[i] <;> rfl
theorem L6 (a b : BitVec 32) (ha : a = 0#32 ∨ a = 1#32) (hb : b = 0#32 ∨ b = 1#32) : (-(a ^^^ b) &&& JR) = (-a &&& JR) ^^^ (-b &&& JR) := by
 rcases ha with rfl | rfl <;> rcases hb with rfl | rfl <;> decide
theorem Lp (x y : BitVec 32) (n : Nat) : (x ^^^ y) >>> n = (x >>> n) ^^^ (y >>> n) := by
 ext i hi
 simp
theorem Qj (a b c d : BitVec 32) : (a ^^^ b) ^^^ (c ^^^ d) = (a ^^^ c) ^^^ (b ^^^ d) := by
 ext i hi
 simp only [BitVec.getElem_xor]
 cases a[i] <;> cases b[i] <;> cases c[i] <;> cases d[i] <;> rfl
theorem O9 (x y : BitVec 32) : O5 (x ^^^ y) = O5 x ^^^ O5 y := by
 unfold O5
 rw [Lp, J5, L6 _ _ (IY x) (IY y), Qj]
theorem LP : ∀ (n : Nat) (x y : BitVec 32), E1 n (x ^^^ y) = E1 n x ^^^ E1 n y
 | 0, _, _ => rfl
 | n + 1, x, y => by simp only [E1, LP n x y, O9]
theorem KD : ∀ (n : Nat) (y : BitVec 32), n ≤ 32 → y.toNat % 2 ^ n = 0 → E1 n y = y >>> n
 | 0, y, _, _ => by simp [E1]
 | n + 1, y, hn, h => by
  have h1 : y.toNat % 2 ^ n = 0 := by
   have hd : 2 ^ n ∣ 2 ^ (n + 1) := ⟨2, by rw [Nat.pow_succ]⟩
   have := Nat.mod_mod_of_dvd y.toNat hd
   rw [h] at this; simpa using this.symm
  rw [E1, KD n y (by omega) h1]
  have h2 : (y >>> n) &&& 1#32 = 0#32 := by
   apply BitVec.eq_of_toNat_eq
   simp only [BitVec.toNat_and, BitVec.toNat_ushiftRight]
   have : (y.toNat >>> n) % 2 = 0 := by
    rw [Nat.shiftRight_eq_div_pow]
    obtain ⟨k, hk⟩ := Nat.dvd_of_mod_eq_zero h
    rw [hk, Nat.pow_succ, Nat.mul_assoc, Nat.mul_div_cancel_left _ (Nat.two_pow_pos n)]
    omega
   simpa using this
  unfold O5
  rw [h2]
  have h3 : (-(0#32) &&& JR) = 0#32 := by decide
  rw [h3, BitVec.xor_zero]
  exact (BitVec.shiftRight_add y n 1).symm
theorem M_ (x : BitVec 32) : E1 8 x = E1 8 (BitVec.ofNat 32 (x.toNat % 256)) ^^^ (x >>> 8) := by
 have hsplit : x = BitVec.ofNat 32 (x.toNat % 256) ^^^ (x &&& ~~~ 255#32) := by
  have h255 : BitVec.ofNat 32 (x.toNat % 256) = x &&& 255#32 := by
   apply BitVec.eq_of_toNat_eq
   simp only [BitVec.toNat_and, BitVec.toNat_ofNat]
   rw [show (255 : Nat) % 2 ^ 32 = 2 ^ 8 - 1 from rfl, Nat.and_two_pow_sub_one_eq_mod]
   omega
  rw [h255]
  ext i hi
  simp only [BitVec.getElem_xor, BitVec.getElem_and, BitVec.getElem_not]
  cases x[i] <;> cases (255#32)[i] <;> rfl
 have hz : (x &&& ~~~ 255#32).toNat % 2 ^ 8 = 0 := by
  rw [BitVec.toNat_and, ← Nat.and_two_pow_sub_one_eq_mod, Nat.and_assoc]
  have : (~~~ 255#32).toNat &&& (2 ^ 8 - 1) = 0 := by decide
  rw [this, Nat.and_zero]
 have hs : (x &&& ~~~ 255#32) >>> 8 = x >>> 8 := by
  have h0 : (BitVec.ofNat 32 (x.toNat % 256)) >>> 8 = 0#32 := by
   apply BitVec.eq_of_toNat_eq
   simp only [BitVec.toNat_ushiftRight, BitVec.toNat_ofNat, Nat.shiftRight_eq_div_pow]
   omega
  have := congrArg (fun z : BitVec 32 => z >>> 8) hsplit
  rw [Lp, h0, BitVec.zero_xor] at this
  exact this.symm
 calc E1 8 x = E1 8 (BitVec.ofNat 32 (x.toNat % 256) ^^^ (x &&& ~~~ 255#32)) := by rw [← hsplit]
  _ = E1 8 (BitVec.ofNat 32 (x.toNat % 256)) ^^^ E1 8 (x &&& ~~~ 255#32) := LP _ _ _
  _ = _ := by rw [KD 8 _ (by omega) hz, hs]
def uv (x : BitVec 32) : Value := .int .u32 (x.toNat : Int)
section
variable {P : Program} {w : World} {t : TypeId} {x y : BitVec 32}
theorem Er (x : BitVec 32) : BitVec.ofInt 32 (x.toNat : Int) = x := by
 apply BitVec.eq_of_toNat_eq
 rw [BitVec.toNat_ofInt]
 have := x.isLt
 omega
theorem It (x : BitVec 32) : IntKind.u32.wrap (x.toNat : Int) = (x.toNat : Int) := by
 have := x.isLt
 exact I8 (by omega) (by omega)
theorem FP : (binOp .xor t (uv x) (uv y)).run P w = .ok (uv (x ^^^ y)) w := by
 show Result.ok (Value.int .u32 (IntKind.u32.wrap ((BitVec.ofInt 32 (x.toNat : Int) ^^^ BitVec.ofInt 32 (y.toNat : Int)).toNat : Nat))) w = _
 rw [Er, Er, It]; rfl
theorem KK : (binOp .and t (uv x) (uv y)).run P w = .ok (uv (x &&& y)) w := by
 show Result.ok (Value.int .u32 (IntKind.u32.wrap ((BitVec.ofInt 32 (x.toNat : Int) &&& BitVec.ofInt 32 (y.toNat : Int)).toNat : Nat))) w = _
 rw [Er, Er, It]; rfl
theorem N9 : (Op.unary .neg (uv x)).run P w = .ok (uv (-x)) w := by
 show Result.ok (Value.int .u32 (IntKind.u32.wrap (0 - (x.toNat : Int)))) w = _
 have h : IntKind.u32.wrap (0 - (x.toNat : Int)) = ((-x).toNat : Int) := by
  rw [BitVec.toNat_neg]
  have := x.isLt
  rw [show IntKind.u32.wrap (0 - (x.toNat : Int)) = (0 - (x.toNat : Int)) % 4294967296 by simp [IntKind.wrap, IntKind.bits, IntKind.signed]]
  omega
 rw [h]; rfl
theorem Nz : (Op.unary .xor (uv x)).run P w = .ok (uv (~~~ x)) w := by
 show Result.ok (Value.int .u32 (IntKind.u32.wrap ((BitVec.ofInt 32 4294967295 ^^^ BitVec.ofInt 32 (x.toNat : Int)).toNat : Nat))) w = _
 have h1 : BitVec.ofInt 32 4294967295 = BitVec.allOnes 32 := by decide
 rw [Er, h1, BitVec.allOnes_xor, It]; rfl
theorem Ge {k' : IntKind} {d : Nat} {c : Int} (hc : c = (d : Int)) (hd : Nat.ble d 32 = true) : (binOp .shr t (uv x) (.int k' c)).run P w = .ok (uv (x >>> d)) w := by
 have := Lc (P := P) (w := w) (t := t) (k := .u32) (k' := k') (n := x.toNat) (d := d) hc hd
 have e : (x >>> d).toNat = x.toNat / 2 ^ d := by rw [BitVec.toNat_ushiftRight, Nat.shiftRight_eq_div_pow]
 unfold uv
 rw [e]
 exact this
end
end Go.Sx
namespace Go.Sx
open Go.Proofs Go.Proofs.Tryz
def Bts (w : World) (v : Value) (bs : List UInt8) : Prop :=
 bs.length ≤ maxLen ∧ ((v = .slice none 0 0 ∧ bs = []) ∨ ∃ b o cap, v = .slice (some ⟨b, o, none⟩) bs.length cap ∧ b < w.heap.size ∧ At w b o (bs.map bv) ∧ bs.length ≤ cap)
theorem BH {w : World} {v : Value} {bs : List UInt8} (h : w.ownsRow 0 5 1 v bs.length (bs.map bv)) : Bts w v bs := by
 rcases h.2 with ⟨rfl, h2⟩ | ⟨g, cap, cur, rfl, _, hg, hn, hm, hs, ht⟩
 · exact ⟨by omega, .inl ⟨rfl, List.eq_nil_of_length_eq_zero h2⟩⟩
 · refine ⟨by omega, .inr ⟨g, 0, cap, rfl, (Array.getElem?_eq_some_iff.1 hg).1, ?_, hn⟩⟩
   intro j v hv
   rw [← ht, List.getElem?_take] at hv
   split at hv
   · simp [World.cell?, hg]; simpa using hv
   · cases hv
theorem Bts.val {w : World} {v : Value} {bs : List UInt8} (h : Bts w v bs) : ∃ g cap, v = .slice g bs.length cap ∧ (∀ i x, bs[i]? = some x → ∃ b o, g = some ⟨b, o, none⟩ ∧ w.cell? ⟨b, o + i, none⟩ = some (bv x) ∧ b < w.heap.size) := by
 rcases h.2 with ⟨rfl, rfl⟩ | ⟨b, o, cap, rfl, hl, ha, _⟩
 · exact ⟨none, 0, rfl, by simp⟩
 · refine ⟨_, cap, rfl, fun i x hx => ⟨b, o, rfl, ha i _ (by simp [hx]), hl⟩⟩
theorem Bts.keep {w w' : World} {v : Value} {bs : List UInt8} {O O' : Nat → Prop} (h : Bts w v bs) (f : Fr O w O' w') (hn : ∀ b o l c, v = .slice (some ⟨b, o, none⟩) l c → ¬ O b) : Bts w' v bs := by
 refine ⟨h.1, ?_⟩
 rcases h.2 with h | ⟨b, o, cap, rfl, hl, ha, hc⟩
 · exact .inl h
 · exact .inr ⟨b, o, cap, rfl, Nat.lt_of_lt_of_le hl f.size, ha.agree (f.blk b hl (hn b o _ _ V)), hc⟩
theorem Bts.keep0 {w w' : World} {v : Value} {bs : List UInt8} {O' : Nat → Prop} (h : Bts w v bs) (f : Fr (fun _ => False) w O' w') : Bts w' v bs := h.keep f (fun _ _ _ _ _ h => h)
theorem Qq : By prog 85 false 1 := Rj
theorem LU {w : World} {b : Nat} {k : IntKind} {i : Nat} (h1 : i < 256) :
 (Instr.indexAt 211 (.pointer (some ⟨b, 0, none⟩)) (.int k (i : Int))).run prog w = .ok (.pointer (some ⟨b, i, none⟩)) w := by
 have h2 : ((i : Int) < 256) := by omega
 have h3 : ((0 : Int) ≤ (i : Int)) := by omega
 simp [Instr.indexAt, asIntOf, runUnderlying211, Instr.sureAddr, h3, sizeOf85, Addr.add_lit]
 intro h4; omega
theorem MD {cs : List Value} {i j : Nat} {v : Value} (h : i < cs.length) : (Ch cs i [v])[j]? = if j = i then some v else cs[j]? := by
 have : Ch cs i [v] = cs.set i v := by
  rw [List.set_eq_take_append_cons_drop, if_pos h]; simp [Ch]
 rw [this, List.getElem?_set]
 by_cases hj : i = j
 · subst hj; simp [h]
 · rw [if_neg hj, if_neg (fun e => hj e.symm)]
theorem On {i : Nat} (h : i < 4294967296) : uv (BitVec.ofNat 32 i) = .int .u32 (i : Int) := by
 have : (BitVec.ofNat 32 i).toNat = i := by rw [BitVec.toNat_ofNat]; omega
 unfold uv; rw [this]
theorem AS {i : Nat} (h : i < 9223372036854775807) : Value.int .i64 (IntKind.i64.wrap ((i : Int) + 1)) = Value.int .i64 ((i + 1 : Nat) : Int) := by
 rw [B4 (by unfold Bu; omega)]; rfl
def TabAt (w : World) (bt n : Nat) : Prop := ∃ cs, Blk w bt cs 211 ∧ cs.length = 256 ∧ ∀ j, j < n → cs[j]? = some (uv (E1 8 (BitVec.ofNat 32 j)))
theorem TabAt.store {w : World} {bt n : Nat} (h : TabAt w bt n) (hn : n < 256) : ∃ w', (storeVar 85 ⟨bt, n, none⟩ (uv (E1 8 (BitVec.ofNat 32 n)))).run prog w = .ok () w' ∧ TabAt w' bt (n + 1) ∧ Fr (fun b => b = bt) w (fun b => b = bt) w' := by
 obtain ⟨cs, hb, hl, ht⟩ := h
 have hst := BR (P := prog) (t := 85) (n := 1) (agg := false) (o := n) (v := uv (E1 8 (BitVec.ofNat 32 n))) (vs := [uv (E1 8 (BitVec.ofNat 32 n))]) Qq rfl rfl (by simp [uv, Value.oneCell']) hb (by simp; omega)
 refine ⟨_, hst, ⟨_, hb.setRow _, by rw [Kx (by simp; omega)]; exact hl, ?_⟩, Fr.setRow _ V⟩
 intro j hj
 rw [MD (by omega)]
 split
 · next h => rw [h]
 · exact ht j (by omega)
theorem NG (r : BitVec 32) (c : UInt8) {w : World} {t : TypeId} : (binOp .xor t (.int .u8 (IntKind.u8.wrap (r.toNat : Int))) (bv c)).run prog w = .ok (.int .u8 (((r ^^^ BitVec.ofNat 32 c.toNat).toNat % 256 : Nat) : Int)) w := by
 show Result.ok (Value.int .u8 (IntKind.u8.wrap ((BitVec.ofInt 8 (IntKind.u8.wrap (r.toNat : Int)) ^^^ BitVec.ofInt 8 (c.toNat : Int)).toNat : Nat))) w = _
 have hc := c.toNat_lt
 have e : (BitVec.ofInt 8 (IntKind.u8.wrap (r.toNat : Int)) ^^^ BitVec.ofInt 8 (c.toNat : Int)).toNat = (r ^^^ BitVec.ofNat 32 c.toNat).toNat % 256 := by
  simp only [BitVec.toNat_xor, BitVec.toNat_ofInt, BitVec.toNat_ofNat, HJ]
  have h1 : ((r.toNat : Int) % 256 % ((2 ^ 8 : Nat) : Int)).toNat = r.toNat % 2 ^ 8 := by omega
  have h2 : ((c.toNat : Int) % ((2 ^ 8 : Nat) : Int)).toNat = c.toNat % 2 ^ 8 := by omega
  rw [h1, h2, ← Nat.xor_mod_two_pow]
  congr 2
  omega
 rw [e, HJ]
 congr 2
 omega
theorem Mi {w : World} {v : Value} {bs : List UInt8} (h : Bts w v bs) : Calls prog 53 [v].toArray w (Dq (fun r w' => r = uv (Pd bs) ∧ Fr (fun _ => False) w (fun _ => False) w') (fun _ _ => False)) := by
 have hml : bs.length ≤ 9223372036854775807 := by have := h.1; simpa [maxLen] using this
 obtain ⟨g, cap, hv, _⟩ := h.val
 obtain ⟨z, hz0, hzs⟩ : ∃ z, (∀ w, (zeroValue 211).run prog w = .ok z w) ∧ z.cells.size = 256 := ⟨_, zeroValue211, by kernel_rfl⟩
 refine AB 46 func53 V V V ?_
 refine Af (Aa (Ah V V (Ae (Af (Aa (AO (hz0 _) V (Ar [(0, v), (3, ptr w.heap.size)] ⟨V, V, trivial⟩ ?_)))))))
 have f1 : Fr (fun _ => False) w (fun b => b = w.heap.size) (w.alloc (.cells z.cells 211)) := ⟨rfl, rfl, rfl, by simp, fun b hb _ => heap_alloc_old w _ b hb, fun b hb => .inr (by omega)⟩
 have t1 : TabAt (w.alloc (.cells z.cells 211)) w.heap.size 0 := ⟨z.cells.toList, by have := heap_alloc_new w (.cells z.cells 211); simpa [Blk] using this, by simpa using hzs, by intro j hj; omega⟩
 generalize w.alloc (.cells z.cells 211) = w1 at f1 t1 ⊢
 refine B9 (ι := World) (fun _ => [(0, v), (3, ptr w.heap.size)]) (fun i w' => i = w' ∧ Fr (fun _ => False) w (fun b => b = w.heap.size) w' ∧ TabAt w' w.heap.size 256) ?_ ?_
 · refine Af (Aa (Ac V V (Ae ?_)))
   refine A1 (AW (ι := Nat) (fun i => [(0, v), (3, ptr w.heap.size), (9, .int .i64 i)]) (fun i w' => i ≤ 256 ∧ Fr (fun _ => False) w (fun b => b = w.heap.size) w' ∧ TabAt w' w.heap.size i) (fun i => 256 - i) 0 ⟨V, V, V, trivial⟩ ⟨by omega, f1, t1⟩ ?_)
   rintro i wi ⟨hi, fi, ti⟩
   refine Af (Aa (Al V V V V (Ae (Af ?_))))
   refine AK V (fun ht => A_ fun a ha => Ad ?_) (fun hf => AQ fun a ha => Aq (Aq (A3 (Ad ?_))))
   · have hlt : i < 256 := by simp at ht; omega
     refine A8 ha (Af (A1 (Af (Aa (Ac V V (Ah V V (Ae (Af (Aa (Ac V V (AJ V (Bv runUnderlying3 runUnderlying85) V (Ah V V ?_))))))))))))
     rw [I8 (by omega) (by omega), ← On (i := i) (by omega)]
     refine Ar [(0, v), (3, ptr w.heap.size), (9, .int .i64 i), (4, .int .i64 i), (5, uv (BitVec.ofNat 32 i))] ⟨V, V, V, V, V, trivial⟩ ?_
     refine B9 (ι := Unit) (fun _ => [(0, v), (3, ptr w.heap.size), (9, .int .i64 i), (4, .int .i64 i), (5, uv (E1 8 (BitVec.ofNat 32 i)))]) (fun _ w' => w' = wi) ?_ ?_
     · refine Af (Aa (Ac V V (Ae ?_)))
       refine A1 (AW (ι := Nat) (fun k => [(0, v), (3, ptr w.heap.size), (9, .int .i64 i), (4, .int .i64 i), (5, uv (E1 k (BitVec.ofNat 32 i))), (14, .int .i64 k)]) (fun k w' => k ≤ 8 ∧ w' = wi) (fun k => 8 - k) 0 ⟨V, V, V, V, V, V, trivial⟩ ⟨by omega, rfl⟩ ?_)
       rintro k _ ⟨hk, rfl⟩
       refine Af (Aa (Al V V V V (Ae (Af ?_))))
       refine AK V (fun ht => A_ fun a ha => Ad ?_) (fun hf => AQ fun a ha => Aq (Aq (A3 (Ad ?_))))
       · have hk8 : k < 8 := by simp at ht; omega
         refine A8 ha (Af (A1 (Aa (Ac V V (Al V V (Ge (d := 1) V V) V (Ac V V (Al V V (KK (y := 1#32)) V (JI V N9 V (Al V V (KK (y := JR)) V (Al V V FP V (Ah V V ?_)))))))))))
         refine A2 fun a ha => Az (Ad (A8 ha (Aa (Al V V V V (Ac V V (A2 fun a ha => Ad ?_))))))
         exact ⟨k + 1, ha.weak ⟨rfl, rfl, rfl, rfl, rfl, by show some _ = some _; rw [AS (by omega)], trivial⟩, ⟨hk8, rfl⟩, by omega⟩
       · have : k = 8 := by simp at hf; omega
         subst this
         exact ⟨(), ha.weak ⟨V, V, V, V, V, trivial⟩, rfl⟩
     · rintro _ _ rfl
       obtain ⟨w2, hst, ti2, f2⟩ := ti.store hlt
       refine Aa (Ac V V (Ac V V (A0 V V (LU hlt) V (An V V hst (A2 fun a ha => Az (Ad (A8 ha (Aa (Al V V V V (Ac V V (A2 fun a ha => Ad ?_)))))))))))
       exact ⟨i + 1, ha.weak ⟨rfl, rfl, by show some _ = some _; rw [AS (by omega)], trivial⟩, ⟨hlt, fi.trans f2, ti2⟩, by omega⟩
   · have : i = 256 := by simp at hf; omega
     subst this
     exact ⟨wi, ha.weak ⟨V, V, trivial⟩, rfl, fi, ti⟩
 · rintro w2 _ ⟨rfl, f2, cs, hb, hcl, hct⟩
   have h2 := h.keep0 f2
   obtain ⟨g2, cap2, hv2, hget⟩ := h2.val
   subst hv2
   refine Af (Aa (Ah V V (Ae ?_)))
   refine B9 (ι := Unit) (fun _ => [(6, uv (DM (BitVec.allOnes 32) bs))]) (fun _ w' => w' = w2) ?_ ?_
   · refine Af (Aa (Ac V V (AE V (Ay underlying22) V (Ac V V (Ae ?_)))))
     refine A1 (AW (ι := Nat) (fun i => [(3, ptr w.heap.size), (6, uv (DM (BitVec.allOnes 32) (bs.take i))), (28, .slice g2 bs.length cap2), (29, .int .i64 bs.length), (30, .int .i64 i)]) (fun i w' => i ≤ bs.length ∧ w' = w2) (fun i => bs.length - i) 0
      ⟨V, V, V, V, V, trivial⟩ ⟨Nat.zero_le _, rfl⟩ ?_)
     rintro i _ ⟨hi, rfl⟩
     refine Af (Aa (Al V V V V (Ae (Af ?_))))
     refine AK V (fun ht => A_ fun a ha => Ad ?_) (fun hf => AQ fun a ha => Aq (Aq (A3 (Ad ?_))))
     · have hlt : i < bs.length := by simp at ht; omega
       obtain ⟨c, hc⟩ : ∃ c, bs[i]? = some c := ⟨_, List.getElem?_eq_getElem hlt⟩
       obtain ⟨b, o, rfl, hcell, _⟩ := hget i c hc
       refine A8 ha (Af (A1 (Af (Aa (A0 V V (Bp underlying22 Kw (by omega) (by omega)) V ?_)))))
       rw [Int.toNat_natCast, Nat.mul_one]
       refine Ai V (A4 Kw hcell) V (Ah V V (Ae ?_))
       generalize hr : DM (BitVec.allOnes 32) (bs.take i) = r
       refine Aa (Ac V V (AJ V (Bv (k := .u8) runUnderlying85 runUnderlying5) V (Ac V V (Al V V (NG r c) V ?_))))
       have hm : (r ^^^ BitVec.ofNat 32 c.toNat).toNat % 256 < 256 := Nat.mod_lt _ (by decide)
       refine A0 V V (LU hm) V (Ai V (A4 Qq (by rw [hb.cell]; exact hct _ hm)) V ?_)
       refine Ac V V (Al V V (Ge (d := 8) V V) V (Al V V FP V (Ah V V ?_)))
       refine A2 fun a ha => Az (Ad (A8 ha (Aa (Al V V V V (Ac V V (A2 fun a ha => Ad ?_))))))
       refine ⟨i + 1, ha.weak ⟨rfl, ?_, rfl, rfl, by show some _ = some _; rw [AS (by omega)], trivial⟩, ⟨hlt, rfl⟩, by omega⟩
       show some _ = some _
       rw [BK hc, GC, hr]
       unfold Q8
       rw [M_ (r ^^^ _), Lp]
       have hz : (BitVec.ofNat 32 c.toNat) >>> 8 = 0#32 := by
        apply BitVec.eq_of_toNat_eq
        have := c.toNat_lt
        simp only [BitVec.toNat_ushiftRight, BitVec.toNat_ofNat, Nat.shiftRight_eq_div_pow]
        omega
       rw [hz, BitVec.xor_zero]
     · have : i = bs.length := by simp at hf; omega
       subst this
       refine ⟨(), ha.weak ⟨?_, trivial⟩, rfl⟩
       show some _ = some _
       rw [List.take_length]
   · rintro _ _ rfl
     refine Af (Aa (Ac V V (JI V Nz V (Ah V V (Ae (AA fun a ha => Au V ha V ⟨rfl, ?_⟩))))))
     exact f2.drop (fun _ h => h)
end Go.Sx
namespace Go.Sx
open Go.Proofs Go.Proofs.Tryz
def Mh (x : BitVec 32) : List UInt8 := [(x.toNat % 256).toUInt8, ((x >>> 8).toNat % 256).toUInt8, ((x >>> 16).toNat % 256).toUInt8, ((x >>> 24).toNat % 256).toUInt8]
def BP (bs : List UInt8) : List UInt8 := bs ++ Mh (Pd bs)
theorem NE (x : BitVec 32) : (Mh x).map bv = [.int .u8 ((x.toNat % 256 : Nat) : Int), .int .u8 (((x >>> 8).toNat % 256 : Nat) : Int), .int .u8 (((x >>> 16).toNat % 256 : Nat) : Int), .int .u8 (((x >>> 24).toNat % 256 : Nat) : Int)] := by
 simp only [Mh, List.map_cons, List.map_nil]
 rw [Fo _ (Nat.mod_lt _ (by decide)), Fo _ (Nat.mod_lt _ (by decide)), Fo _ (Nat.mod_lt _ (by decide)), Fo _ (Nat.mod_lt _ (by decide))]
theorem Hv {w : World} {x : BitVec 32} : (convert 85 5 (uv x)).run prog w = .ok (.int .u8 ((x.toNat % 256 : Nat) : Int)) w := by
 have := Bv (P := prog) (w := w) (k' := .u32) (n := (x.toNat : Int)) runUnderlying85 runUnderlying5
 rw [HJ, Jf] at this
 exact this
theorem Nv {w : World} {b n c : Nat} {l : List UInt8} (hb : Blk w b (l.map bv) 5) (hn : l.length = n) : Src prog 1 22 (.slice (some ⟨b, 0, none⟩) n c) n (l.map bv) w :=
 IJ (P := prog) (e := 5) underlying22 hb (by simpa using hn) (Ks _)
theorem Bts.src {w : World} {v : Value} {bs : List UInt8} (h : Bts w v bs) : Src prog 1 22 v bs.length (bs.map bv) w := by
 rcases h.2 with ⟨rfl, rfl⟩ | ⟨b, o, cap, rfl, hl, ha, _⟩
 · exact Src.ofNil w underlying22 0
 · exact Src.ofSlice w underlying22 _ _ _ _ (by simp) (fun j v hj => by rw [Addr.add_lit]; exact ha j v hj) (Ks _)
theorem RP {w : World} {v : Value} {xs : List UInt8} (r : w.ownsRow 0 5 1 v xs.length (xs.map bv)) (hl : xs.length ≤ 2 ^ 45) :
 Calls prog 28 [v].toArray w (Dq (fun v' w' => w'.ownsRow 0 5 1 v' (BP xs).length ((BP xs).map bv) ∧ Fr (Bk v) w (Bk v') w') (fun _ _ => False)) := by
 refine AB 20 func28 V V V ?_
 refine Af (Aa (Ah V V (Ae (Af (Aa (Ac V V (Aj call53 V V (Mi (BH r)) ?_ Be))))))) 
 rintro _ w1 ⟨rfl, f1⟩
 have r1 := AP r (fun b hb => f1.blk b (AT r hb) (fun h => h))
 refine Ah V V (Ar [(0, v), (3, uv (Pd xs))] ⟨V, V, trivial⟩ ?_)
 generalize hx : Pd xs = x
 refine Af (Aa (Ac V V (Ac V V (AJ V Hv V (Ac V V (Al V V (Ge (d := 8) V V) V (AJ V Hv V ?_)))))))
 refine Ac V V (Al V V (Ge (d := 16) V V) V (AJ V Hv V (Ac V V (Al V V (Ge (d := 24) V V) V (AJ V Hv V ?_)))))
 refine A7 V (Im underlying22 Kw zeroValue5 V V V V V) V ?_
 obtain ⟨v2, w2, hr2, r2, f2⟩ := BC (w := w1.alloc (.cells [Value.int .u8 ((x.toNat % 256 : Nat) : Int), .int .u8 (((x >>> 8).toNat % 256 : Nat) : Int), .int .u8 (((x >>> 16).toNat % 256 : Nat) : Int), .int .u8 (((x >>> 24).toNat % 256 : Nat) : Int)].toArray 5)) (ty := 22) (ys := Mh x)
  (DC r1 _) (Nv (n := 4) (c := 4) (by rw [NE]; exact AN) V) (by simp [Mh]; omega)
 refine AU V V hr2 V (Ah V V (Ae (AA fun a ha => Au V ha V ⟨?_, ?_⟩)))
 · unfold BP; rw [hx]; exact r2
 · exact (f1.drop (fun _ h => h.elim)).trans ((Fr.alloc _ _ _).trans f2)
theorem K2 {P : Program} {w : World} {t e : TypeId} {a : Option Addr} {l c : Nat} {d : Nat} (ht : ∀ w, (underlying t).run P w = .ok (.slice e) w) :
 (Op.equalIn (d + 1) t (.slice a l c) (.slice none 0 0)).run P w = .ok a.isNone w := by
 cases a <;> simp [Op.equalIn, ht]
theorem K5 {P : Program} {w : World} {t e : TypeId} {a : Option Addr} {l c : Nat} (ht : ∀ w, (underlying t).run P w = .ok (.slice e) w) :
 (binOp .eql t (.slice a l c) (.slice none 0 0)).run P w = .ok (.bool a.isNone) w := by
 have h1 : binOp .eql t (.slice a l c) (.slice none 0 0) = (do pure (.bool (← Op.equal t (.slice a l c) (.slice none 0 0)))) := rfl
 have h2 : (Op.equal t (.slice a l c) (.slice none 0 0)).run P w = .ok a.isNone w := K2 (d := 9999) ht
 rw [h1]
 simp only [Sem.run_bind, h2, Result.andThen_ok, Sem.run_pure]
theorem LN {P : Program} {w : World} {op : BinOp} {t : TypeId} {x y : Operand} {a b : Option Addr} {l c l' c' : Nat} : (eqGuard op t x y (.slice a l c) (.slice b l' c')).run P w = .ok () w := by
 unfold eqGuard; cases op <;> rfl
theorem JS {w : World} : (Instr.buildSlice 22 0 #[]).run prog w = .ok (.slice (some ⟨w.heap.size, 0, none⟩) 0 0) (w.alloc (.cells ([] : List Value).toArray 5)) := by
 have hr : Array.range 0 = #[] := rfl
 simp [Instr.buildSlice, runUnderlying22, sizeOf5, Instr.fill, newRow, hr]
theorem Ki {w : World} : (w.alloc (.cells ([] : List Value).toArray 5)).ownsRow 0 5 1 (.slice (some ⟨w.heap.size, 0, none⟩) 0 0) ([] : List UInt8).length (([] : List UInt8).map bv) :=
 ⟨rfl, .inr ⟨w.heap.size, 0, #[], rfl, Nat.zero_le _, heap_alloc_new w _, Nat.le_refl _, Nat.zero_le _, rfl, rfl⟩⟩
theorem RO {w : World} {v : Value} {xs : List UInt8} (h : Bts w v xs) (hl : xs.length ≤ 2 ^ 45) :
 Calls prog 29 [v].toArray w (Dq (fun v' w' => w'.ownsRow 0 5 1 v' xs.length (xs.map bv) ∧ Fr (fun _ => False) w (Bk v') w') (fun _ _ => False)) := by
 obtain ⟨g, cap, rfl, _⟩ := h.val
 refine AB 8 func29 V V V ?_
 refine Af (Aa (Ah V V (Ae (Af ?_))))
 refine Af (Aa (Ac V V (AG V V LN (K5 runUnderlying22) V (Ae (AK V (fun ht => ?_) (fun hf => A_ fun a ha => Ad ?_))))))
 · refine Af (Aa (Ah V V (Ae (AA fun a ha => Ao (Au V ha V ⟨?_, Fr.refl _ _ |>.drop (fun _ h => h) |> fun f => ⟨f.os, f.tape, f.output, f.size, f.blk, fun b hb => by cases hb⟩⟩)))))
   rcases h.2 with ⟨h1, rfl⟩ | ⟨b, o, c, h1, _⟩
   · exact World.ownsRow_nil w 0 5 1
   · simp at h1; rw [h1.1] at ht; cases ht
 · refine A8 ha (Af (Aa (A7 V JS V (Ac V V ?_))))
   have f0 : Fr (fun _ => False) w (fun b => b = w.heap.size) (w.alloc (.cells ([] : List Value).toArray 5)) := ⟨rfl, rfl, rfl, by simp, fun b hb _ => heap_alloc_old w _ b hb, fun b hb => .inr (by omega)⟩
   obtain ⟨v2, w2, hr2, r2, f2⟩ := BC (ty := 22) Ki (h.keep0 f0).src (by simp; omega)
   refine AU V V hr2 V (Ah V V (Ae (AA fun a ha => Au V ha V ⟨r2, ?_⟩)))
   refine f0.trans ?_
   have : (fun b => b = w.heap.size) = Bk (.slice (some ⟨w.heap.size, 0, none⟩) 0 0) := by
    funext b; simp only [Bk, Value.ownBlock, Option.some.injEq, eq_iff_iff]; exact eq_comm
   rw [this]; exact f2
theorem Su {w : World} {v1 v2 : Value} {xs ys : List UInt8} (h1 : Bts w v1 xs) (h2 : Bts w v2 ys) :
 Calls prog 27 [v1, v2].toArray w (Dq (fun r w' => r = .bool (decide (xs = ys)) ∧ Fr (fun _ => False) w (fun _ => False) w') (fun _ _ => False)) := by
 have hm1 : xs.length ≤ 9223372036854775807 := by have := h1.1; simpa [maxLen] using this
 have hm2 : ys.length ≤ 9223372036854775807 := by have := h2.1; simpa [maxLen] using this
 obtain ⟨g1, c1, rfl, get1⟩ := h1.val
 obtain ⟨g2, c2, rfl, get2⟩ := h2.val
 refine AB 26 func27 V V V ?_
 refine Af (Aa (Ah V V (Ae (Af ?_))))
 refine Af (Aa (Ac V V (AE V (Ay underlying22) V (Ac V V (AE V (Ay underlying22) V (Al V V (BO V) V (Ae (AK V (fun ht => ?_) (fun hf => A_ fun a ha => Ad ?_)))))))))
 · refine Af (Aa (Ah V V (Ae (AA fun a ha => Ao (Au V ha V ⟨?_, Fr.refl _ _⟩)))))
   have : xs ≠ ys := fun e => by subst e; simp at ht
   simp [this]
 · have hlen : xs.length = ys.length := by simp at hf; omega
   refine A8 (ha.weak (l := [(0, .slice g1 xs.length c1), (1, .slice g2 ys.length c2), (4, .bool false)]) ⟨V, V, V, trivial⟩) ?_
   refine B9 (ι := Nat) (fun _ => []) (fun k w' => w' = w.drewN k ∧ xs = ys) ?_ ?_
   · refine Af (Aa (Ac V V (AE V (Ay underlying22) V (Ac V V (Ae ?_)))))
     refine A1 (AW (ι := Nat × Nat) (fun i => [(0, .slice g1 xs.length c1), (1, .slice g2 ys.length c2), (4, .bool false), (12, .int .i64 xs.length), (13, .int .i64 i.1)]) (fun i w' => i.1 ≤ xs.length ∧ w' = w.drewN i.2 ∧ xs.take i.1 = ys.take i.1) (fun i => xs.length - i.1) (0, 0)
      ⟨V, V, V, V, V, trivial⟩ ⟨Nat.zero_le _, rfl, rfl⟩ ?_)
     rintro ⟨i, k⟩ _ ⟨hi, rfl, he⟩
     simp only at hi he ⊢
     refine Af (Aa (Al V V V V (Ae (Af ?_))))
     refine AK V (fun ht => A_ fun a ha => Ad ?_) (fun hf => AQ fun a ha => Aq (Aq (A3 (Ad ?_))))
     · have hlt : i < xs.length := by simp at ht; omega
       obtain ⟨x, hx⟩ : ∃ x, xs[i]? = some x := ⟨_, List.getElem?_eq_getElem hlt⟩
       obtain ⟨y, hy⟩ : ∃ y, ys[i]? = some y := ⟨_, List.getElem?_eq_getElem (by omega)⟩
       obtain ⟨b1, o1, rfl, hc1, _⟩ := get1 i x hx
       obtain ⟨b2, o2, rfl, hc2, _⟩ := get2 i y hy
       have hi1 : ∀ w, (Instr.indexAt 22 (.slice (some ⟨b1, o1, none⟩) xs.length c1) (.int .i64 i)).run prog w = .ok (.pointer (some ⟨b1, o1 + i, none⟩)) w := fun w => by
        have := Bp (P := prog) (w := w) (b := b1) (o := o1) (cap := c1) (i := (i : Int)) underlying22 Kw (by omega) (by omega : (i : Int) < (xs.length : Nat))
        rwa [Int.toNat_natCast, Nat.mul_one] at this
       have hi2 : ∀ w, (Instr.indexAt 22 (.slice (some ⟨b2, o2, none⟩) ys.length c2) (.int .i64 i)).run prog w = .ok (.pointer (some ⟨b2, o2 + i, none⟩)) w := fun w => by
        have := Bp (P := prog) (w := w) (b := b2) (o := o2) (cap := c2) (i := (i : Int)) underlying22 Kw (by omega) (by omega : (i : Int) < (ys.length : Nat))
        rwa [Int.toNat_natCast, Nat.mul_one] at this
       have LD : ∀ (o b : Nat) (v : Value), w.cell? ⟨b, o, none⟩ = some v → ∀ w', (∃ k, w' = w.drewN k) → (loadVar 5 ⟨b, o, none⟩).run prog w' = .ok v w' := by
        rintro o b v hc w' ⟨k, rfl⟩
        exact A4 Kw (by simpa using hc)
       refine A8 ha (Af (A1 (Af (Aa (Ac V V (Ah V V (Ae (Af ?_))))))))
       refine C_ (fun w' => ∃ k, w' = w.drewN k) CE (by kernel_rfl) ⟨k + 1, rfl⟩ ?_
       refine A6 V V (A6 V V (AC V V hi1 V (AM V (LD _ _ _ hc1) V (A6 V V (A6 V V (AC V V hi2 V (AM V (LD _ _ _ hc2) V ?_)))))))
       refine CW V V (fun _ => BO V) V (Bm ?_)
       rintro w' ⟨k', rfl⟩
       refine AK V (fun ht => ?_) (fun hf => A_ fun a ha => ?_)
       · refine Af (Aa (Ah V V (Ae (AA fun a ha => Aw (Ao (Ao (Aw (Ao (Au V ha V ⟨?_, (Fr.refl _ _).trans (Fr.drewn k')⟩)))))))))
         have : xs ≠ ys := by
          intro e; subst e; rw [hx] at hy; cases hy; simp at ht
         simp [this]
       · have hxy : x = y := by
          simp at hf
          have := Int.ofNat.inj hf
          exact UInt8.toNat_inj.1 this
         refine Az (Ad (A8 ha (Aa (Al V V V V (Ac V V (A2 fun a ha => Ad ?_))))))
         refine ⟨(i + 1, k'), ha.weak ⟨rfl, rfl, rfl, rfl, by show some _ = some _; rw [AS (by omega)], trivial⟩, ⟨hlt, rfl, ?_⟩, by simp only; omega⟩
         simp only; rw [BK hx, BK hy, he, hxy]
     · have : i = xs.length := by simp at hf; omega
       subst this
       refine ⟨k, ha.weak trivial, rfl, ?_⟩
       rw [List.take_length, List.take_of_length_le (by omega)] at he
       exact he
   · rintro k w' ⟨rfl, rfl⟩
     refine Af (Aa (Ah V V (Ae (AA fun a ha => Au V ha V ⟨by simp, Fr.drewn k⟩))))
end Go.Sx
namespace Go.Sx
open Go.Proofs Go.Proofs.Tryz
theorem Po : (prog.info? 89).map (fun i => i.comparable) = some true := by kernel_rfl
def C2 : Value := .iface 89 (.agg #[])
theorem JT {w : World} {d : Nat} : (Op.equalIn (d + 2) 20 C2 C2).run prog w = .ok true w := by
 obtain ⟨i, hi, hc⟩ : ∃ i, prog.info? 89 = some i ∧ i.comparable = true := by
  have := Po
  cases h : prog.info? 89 with
  | none => rw [h] at this; cases this
  | some i => rw [h] at this; exact ⟨i, rfl, by simpa using this⟩
 simp [Op.equalIn, C2, runUnderlying20, runUnderlying89, typeInfo, hi, hc]
theorem Hf {w : World} : (binOp .neq 20 C2 C2).run prog w = .ok (.bool false) w := by
 have h1 : binOp .neq 20 C2 C2 = (do pure (.bool (!(← Op.equal 20 C2 C2)))) := rfl
 have h2 : (Op.equal 20 C2 C2).run prog w = .ok true w := JT (d := 9998)
 rw [h1]
 simp only [Sem.run_bind, h2, Result.andThen_ok, Sem.run_pure, Bool.not_true]
theorem EL {w : World} : (binOp .neq 20 C2 .nilIface).run prog w = .ok (.bool true) w := by
 have h1 : binOp .neq 20 C2 .nilIface = (do pure (.bool (!(← Op.equal 20 C2 .nilIface)))) := rfl
 have h3 : ∀ d, (Op.equalIn (d + 1) 20 C2 .nilIface).run prog w = .ok false w := fun d => by simp [Op.equalIn, C2, runUnderlying20]
 have h2 : (Op.equal 20 C2 .nilIface).run prog w = .ok false w := h3 9999
 rw [h1]
 simp only [Sem.run_bind, h2, Result.andThen_ok, Sem.run_pure, Bool.not_false]
theorem GR {w : World} : (binOp .neq 20 .nilIface .nilIface).run prog w = .ok (.bool false) w := by
 have h1 : binOp .neq 20 .nilIface .nilIface = (do pure (.bool (!(← Op.equal 20 .nilIface .nilIface)))) := rfl
 have h3 : ∀ d, (Op.equalIn (d + 1) 20 .nilIface .nilIface).run prog w = .ok true w := fun d => by simp [Op.equalIn, runUnderlying20]
 have h2 : (Op.equal 20 .nilIface .nilIface).run prog w = .ok true w := h3 9999
 rw [h1]
 simp only [Sem.run_bind, h2, Result.andThen_ok, Sem.run_pure, Bool.not_true]
theorem EC {w : World} {op : BinOp} {t : TypeId} {x y : Operand} {a : Value} : (eqGuard op t x y C2 a).run prog w = .ok () w := by
 unfold eqGuard C2; cases op <;> rfl
theorem KE {P : Program} {w : World} {t : TypeId} {k : Nat} : (eqGuard .neq t (.tmp k) (.const .nilIface) .nilIface .nilIface).run P w = .ok () w := by
 unfold eqGuard; rfl
def Ff : FrameMode := .panicking [{ v := C2, recovered := true }]
theorem EI (a b : Value) : Ch [a] 0 [b] = [b] := rfl
def Ke (w : World) (b c : Nat) (x y : List Value) : World := (w.setRow b x.toArray).setRow c y.toArray
theorem Fd {P : Program} {Q : Exit → Act → List Frame → World → Prop} {cs : List Frame} {w : World} {id d1 d2 n : Nat} {t1 t2 : TypeId} {p1 p2 : String} {a1 a2 : Array Edge} {m : Env} {v : Value} {cs' : List Frame}
 (hv : (recoverD cs = some (v, cs')) ∨ (recoverD cs = none ∧ v = .nilIface ∧ cs' = cs)) (h1 : Nat.blt d1 n = true) (h2 : Nat.blt d2 n = true)
 (h : ∀ a, Loc n [] ((d2, v) :: (d1, v) :: m) a → Q .normal a cs' w) {a : Act} (ha : Loc n [] m a) :
 (Code.region id #[⟨some d1, .call { callee := .builtin .recover, args := #[], argTypes := #[] }, t1, p1, a1, none⟩, ⟨some d2, .assign (.tmp d1), t2, p2, a2, none⟩] false).wpS P Q a cs w := by
 refine wpS_region ?_
 have hr : List.range (#[(⟨some d1, .call { callee := .builtin .recover, args := #[], argTypes := #[] }, t1, p1, a1, none⟩ : Oper), ⟨some d2, .assign (.tmp d1), t2, p2, a2, none⟩] : Array Oper).size = [0, 1] := rfl
 rw [hr]
 have l1 := ha.put d1 v h1
 have l2 := l1.put d2 v h2
 have e1 : (a.put (some d1) v).eval (.tmp d1) = v := l1.eval (by simp [ev, Env.get, Nat.beq_refl])
 have hx : ∀ w, (execOp a.eval ⟨some d1, .call { callee := .builtin .recover, args := #[], argTypes := #[] }, t1, p1, a1, none⟩).run P w = .ok .recover w := fun w => by
  simp [execOp, resolve, invoke, builtin]
 have hy : ∀ w, (execOp (a.put (some d1) v).eval ⟨some d2, .assign (.tmp d1), t2, p2, a2, none⟩).run P w = .ok (.value v) w := fun w => by
  simp [execOp, e1]
 have hw1 : Region.wanted ⟨some d1, .call { callee := .builtin .recover, args := #[], argTypes := #[] }, t1, p1, a1, none⟩ (yielded #[(⟨some d1, .call { callee := .builtin .recover, args := #[], argTypes := #[] }, t1, p1, a1, none⟩ : Oper), ⟨some d2, .assign (.tmp d1), t2, p2, a2, none⟩] a.tmps) = true := rfl
 have tail : wpOpsS P #[(⟨some d1, .call { callee := .builtin .recover, args := #[], argTypes := #[] }, t1, p1, a1, none⟩ : Oper), ⟨some d2, .assign (.tmp d1), t2, p2, a2, none⟩] Q [1] (a.put (some d1) v) cs' w := by
  simp only [wpOpsS, List.getElem?_toArray, List.getElem?_cons_succ, List.getElem?_cons_zero, Region.wanted, if_true, hy]
  show Oper.upon _ _ _ _ _ _
  rw [Oper.upon_value]
  exact h _ l2
 unfold wpOpsS
 simp only [List.getElem?_toArray, List.getElem?_cons_zero, hw1, if_true, hx]
 rcases hv with hv | ⟨hv, rfl, rfl⟩
 · rw [hv]; exact tail
 · rw [hv]; exact tail
theorem d95_idle {w : World} {b c : Nat} : CallsD prog 95 [ptr b, ptr c].toArray .returning w fun e u' w' => e = .returned (.tuple #[]) ∧ u' = .returning ∧ w' = w := by
 refine callsD_of_wpS func95 V fun c₀ cs hu => ?_
 have hrec : recoverD (c₀ :: cs) = none := by simp only [recoverD, hu]
 refine wpS_seq (Fd (n := 11) (.inr ⟨hrec, rfl, rfl⟩) V V (fun a ha => ?_) (EO 11 [ptr b, ptr c] (by simp)))
 refine wpS_of_wp ?_
 refine A8 ha (Af (Aa (Ac V V (AG V V KE GR V (Ae (A9 V (A_ fun a ha => ?_)))))))
 refine ⟨ha.defers, .returning, by rw [← hu], _, results_none V _ _ _, rfl, rfl, rfl⟩
theorem KH {O : Nat → Prop} {w : World} {b c : Nat} {x y : List Value} (hb : O b) (hc : O c) : Fr O w O (Ke w b c x y) := (Fr.setRow _ hb).trans (Fr.setRow _ hc)
theorem O0 {w : World} {b c : Nat} {x y : Value} (hb : Blk w b [x] 22) (hc : Blk w c [y] 4) (hbc : b ≠ c) :
 CallsD prog 95 [ptr b, ptr c].toArray (.panicking CL) w fun e u' w' => e = .returned (.tuple #[]) ∧ u' = Ff ∧ w' = Ke w b c [.slice none 0 0] [.bool false] := by
 refine callsD_of_wpS func95 V fun c₀ cs hu => ?_
 have hrec : recoverD (c₀ :: cs) = some (C2, { c₀ with mode := Ff } :: cs) := by simp only [recoverD, hu, CL, Ff, C2]
 refine wpS_seq (Fd (n := 11) (.inl hrec) V V (fun a ha => ?_) (EO 11 [ptr b, ptr c] (by simp)))
 refine wpS_of_wp ?_
 have hs1 := BR (P := prog) (w := w) (t := 22) (n := 1) (agg := false) (b := b) (o := 0) (v := .slice none 0 0) (vs := [.slice none 0 0]) CG rfl rfl (by simp [Value.oneCell']) hb (by simp)
 rw [EI] at hs1
 have hc' : Blk (w.setRow b [Value.slice none 0 0].toArray) c [y] 4 := (setRow_other w b c _ (fun e => hbc e.symm)).trans hc
 have hs2 := BR (P := prog) (w := w.setRow b [Value.slice none 0 0].toArray) (t := 4) (n := 1) (agg := false) (b := c) (o := 0) (v := .bool false) (vs := [.bool false]) Ee rfl rfl (by simp [Value.oneCell']) hc' (by simp)
 rw [EI] at hs2
 refine A8 ha (Af (Aa (Ac V V (AG V V EC EL V (Ae (Ax V ?_))))))
 refine Af (Af (Aa (Ac V V (Cl V Iz V (Eg V GX V (AG V V EC Hf V (Ae (A9 V (A_ fun a ha => Ad ?_)))))))))
 refine A8 ha (Aa (An V V hs1 (An V V hs2 (A2 fun a ha => ?_))))
 refine ⟨ha.defers, Ff, rfl, _, results_none V _ _ _, rfl, rfl, rfl⟩
end Go.Sx
