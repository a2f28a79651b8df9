import Derived.Test.YtdldhfocpandoaaGreatStN
import Derived.Test.YtdldhfocpandoaaGreatStD
namespace Go.Sx
open Go.Proofs
set_option maxHeartbeats 4000000 in
theorem x200 : ∀ (N : Nat) (t : T), t.wt ≤ N → XEnc 200 (.list (.st .instr)) t := by
 intro N
 induction N using Nat.strongRecOn with
 | _ N IH =>
 intro t hN
 intro w0 S p most long x O w cs hr hx hu
 obtain ⟨l, rfl⟩ := hr.is_list
 obtain ⟨g, cap, hv, hml, hget⟩ := list_at hr
 rw [hv]
 have h := XS.start (r := [.list l]) hx (use_list hu)
 obtain ⟨Z, hz, hzl⟩ : ∃ Z : List Value, (∀ w, (zeroValue 72).run Tryz.prog w = .ok (.agg Z.toArray) w) ∧ Z.length = 51 := ⟨_, Tryz.zeroValue72, rfl⟩
 refine cW 171 Tryz.func200 rfl rfl rfl ?_
 refine W.sq (W.rg (WL.mv rfl rfl (WL.mv rfl rfl (WL.len rfl (lS Tryz.underlying56) rfl (WL.cl Tryz.call137 rfl rfl h.len ?_ nop)))))
 rintro _ w1 ⟨rfl, O1, x1, h⟩
 refine WL.nx ?_
 refine W.sq (W.rg (WL.an rfl rfl (WL.nx ?_)))
 refine W.bk (W.loop (ι := Nat × (Nat → Prop) × XW × World) (fun i => [(0, ptr p), (1, .slice g l.length cap), (4, .int .i64 (i.1 : Int))])
  (fun i w' => w' = i.2.2.2 ∧ i.1 ≤ l.length ∧ XS w0 S p most long O w (l.drop i.1 ++ ([])) (encRL most long [.list l] x) i.2.1 w' i.2.2.1) (fun i => l.length - i.1) (0, O1, x1, w1) ⟨rfl, rfl, rfl, trivial⟩ ⟨rfl, Nat.zero_le _, h⟩ ?_)
 clear h
 rintro ⟨i1, O1, x1, _⟩ w1 ⟨rfl, hi, h⟩
 simp only at hi h ⊢
 refine W.sq (W.sq (W.rg (WL.mv rfl rfl (WL.mv rfl rfl (WL.len rfl (lS Tryz.underlying56) rfl (WL.bi rfl rfl (run_lss (c := decide (i1 < l.length)) (decide_eq_decide.2 Int.ofNat_lt.symm)) rfl (WL.nx (W.cond rfl (fun ht => W.skip fun a ha => tN ?_) (fun hf => W.exit fun a ha => tE (tE (eH ?_)))))))))))
 · have hil : i1 < l.length := of_decide_eq_true ht
   obtain ⟨t2, hti2⟩ : ∃ t, l[i1]? = some t := ⟨_, List.getElem?_eq_getElem hil⟩
   obtain ⟨b2, o2, ds2, hix2, hS2, hlt2, hA2, hr2⟩ := hget i1 t2 hti2
   have hw2 := T.wt_mem (List.mem_of_getElem? hti2)
   replace h := h.pop hti2
   refine W.run ha (W.sq (W.bk ?_))
   have hone := Rep.one _ _ _ hr2
   obtain ⟨wb, hstb, ab, fb⟩ := put_new (w := w1) (z := .agg Z.toArray) (zs := Z) iy72 rfl hzl hone.1 hone.2
   refine W.sq (W.rg (WL.mv rfl rfl (WL.mv rfl rfl (WL.ix rfl rfl (hix2 _ Tryz.underlying56 iy72 rfl) rfl (WL.ld rfl (lR (f := .st .instr) iy72 hr2 (h.st.at_ hS2 hlt2 hA2)) rfl (WL.alloc (hz _) rfl (WL.so rfl rfl hstb ?_)))))))
   have hx1 := h.st.rebase fb (Nat.le_refl _) ab.lt
   have hrb := hr2.plus h.st fb w1.heap.size
   have hub := h.hd
   generalize w1.heap.size = bx at ab hx1 hrb ⊢
   have hAx := ab.all
   have hltx := ab.lt
   have hSx : plus w0 S bx bx := .inr rfl
   obtain ⟨fl3, rfl, hlen3, hF3⟩ := hrb.st_inv
   obtain ⟨a3_0, fl3, rfl, r3_0, hF3⟩ := hF3.cons_inv
   obtain ⟨a3_1, fl3, rfl, r3_1, hF3⟩ := hF3.cons_inv
   obtain ⟨a3_2, fl3, rfl, r3_2, hF3⟩ := hF3.cons_inv
   obtain ⟨a3_3, fl3, rfl, r3_3, hF3⟩ := hF3.cons_inv
   obtain ⟨a3_4, fl3, rfl, r3_4, hF3⟩ := hF3.cons_inv
   obtain ⟨a3_5, fl3, rfl, r3_5, hF3⟩ := hF3.cons_inv
   obtain ⟨a3_6, fl3, rfl, r3_6, hF3⟩ := hF3.cons_inv
   obtain ⟨a3_7, fl3, rfl, r3_7, hF3⟩ := hF3.cons_inv
   obtain ⟨a3_8, fl3, rfl, r3_8, hF3⟩ := hF3.cons_inv
   obtain ⟨a3_9, fl3, rfl, r3_9, hF3⟩ := hF3.cons_inv
   obtain ⟨a3_10, fl3, rfl, r3_10, hF3⟩ := hF3.cons_inv
   obtain ⟨a3_11, fl3, rfl, r3_11, hF3⟩ := hF3.cons_inv
   obtain ⟨a3_12, fl3, rfl, r3_12, hF3⟩ := hF3.cons_inv
   obtain ⟨a3_13, fl3, rfl, r3_13, hF3⟩ := hF3.cons_inv
   obtain ⟨a3_14, fl3, rfl, r3_14, hF3⟩ := hF3.cons_inv
   obtain ⟨a3_15, fl3, rfl, r3_15, hF3⟩ := hF3.cons_inv
   obtain ⟨a3_16, fl3, rfl, r3_16, hF3⟩ := hF3.cons_inv
   obtain rfl := hF3.nil_inv
   simp only [Nat.zero_add, Nat.reduceAdd, Ty.size, SN.size] at r3_0 r3_1 r3_2 r3_3 r3_4 r3_5 r3_6 r3_7 r3_8 r3_9 r3_10 r3_11 r3_12 r3_13 r3_14 r3_15 r3_16
   obtain ⟨l4, rfl⟩ := r3_11.is_list
   obtain ⟨g4, cap4, hv4, hml4, hget4⟩ := list_at r3_11
   obtain ⟨l5, rfl⟩ := r3_12.is_list
   obtain ⟨g5, cap5, hv5, hml5, hget5⟩ := list_at r3_12
   refine WL.nx (W.weak [(0, ptr p), (1, .slice g l.length cap), (4, .int .i64 (i1 : Int)), (5, ptr bx)] ⟨rfl, rfl, rfl, rfl, trivial⟩ ?_)
   obtain ⟨x, hxx⟩ : ∃ x, x = x1 := ⟨_, rfl⟩
   obtain ⟨Ob, hOb⟩ : ∃ Ob, Ob = O1 := ⟨_, rfl⟩
   subst hxx hOb
   have h0 := h
   clear h
   have hu := use_agg hub
   refine W.sq (W.sq (W.rg (WL.mv rfl rfl (WL.cl Tryz.call135 rfl rfl (c135 hx1 (use_one hu)) ?_ nop))))
   rintro _ w1 ⟨rfl, O1, fd, hx2⟩
   refine WL.nx (W.cond rfl (fun ht => ?_) (fun hf => W.skip fun a ha => tN ?_))
   · have hC : ¬ (x.2 = true ∨ most < x.1.nest + 1 ∨ long < x.1.b.length) := by simpa only [Bool.not_eq_true', decide_eq_false_iff_not] using ht
     rw [decide_eq_false hC] at hx2
     have h := XS.start (r := [a3_0, a3_1, a3_2, a3_3, a3_4, a3_5, a3_6, a3_7, a3_8, a3_9, a3_10, (.list l4), (.list l5), a3_13, a3_14, a3_15, a3_16]) hx2 (use_down hu)
     obtain ⟨Od, hOd⟩ : ∃ Od, Od = O1 := ⟨_, rfl⟩
     obtain ⟨wd, hwd⟩ : ∃ wd, wd = w1 := ⟨_, rfl⟩
     subst hOd hwd
     refine W.sq (W.rg (WL.mv rfl rfl (WL.fa rfl (fld72_0 _ _ _) rfl (WL.ld rfl (lR (f := .int) iy3 r3_0 (h.st.at_ hSx hltx (hAx.sub 0 1))) rfl (WL.cl Tryz.call139 rfl rfl (h.call x139 r3_0) ?_ nop)))))
     rintro _ w1 ⟨rfl, O1, x1, h⟩
     refine WL.nx ?_
     refine W.sq (W.rg (WL.mv rfl rfl (WL.fa rfl (fld72_1 _ _ _) rfl (WL.ld rfl (lR (f := .str) iy9 r3_1 (h.st.at_ hSx hltx (hAx.sub 1 1))) rfl (WL.cl Tryz.call136 rfl rfl (h.call x136 r3_1) ?_ nop)))))
     rintro _ w1 ⟨rfl, O1, x1, h⟩
     refine WL.nx ?_
     refine W.sq (W.rg (WL.mv rfl rfl (WL.fa rfl (fld72_2 _ _ _) rfl (WL.ld rfl (lR (f := .str) iy9 r3_2 (h.st.at_ hSx hltx (hAx.sub 2 1))) rfl (WL.cl Tryz.call136 rfl rfl (h.call x136 r3_2) ?_ nop)))))
     rintro _ w1 ⟨rfl, O1, x1, h⟩
     refine WL.nx ?_
     refine W.sq (W.rg (WL.mv rfl rfl (WL.fa rfl (fld72_3 _ _ _) rfl (WL.ld rfl (lR (f := .list (.st .part)) iy57 r3_3 (h.st.at_ hSx hltx (hAx.sub 3 1))) rfl (WL.cl Tryz.call244 rfl rfl (h.call x244 r3_3) ?_ nop)))))
     rintro _ w1 ⟨rfl, O1, x1, h⟩
     refine WL.nx ?_
     refine W.sq (W.rg (WL.mv rfl rfl (WL.fa rfl (fld72_4 _ _ _) rfl (WL.ld rfl (lR (f := .list (.st .part)) iy57 r3_4 (h.st.at_ hSx hltx (hAx.sub 4 1))) rfl (WL.cl Tryz.call244 rfl rfl (h.call x244 r3_4) ?_ nop)))))
     rintro _ w1 ⟨rfl, O1, x1, h⟩
     refine WL.nx ?_
     refine W.sq (W.rg (WL.mv rfl rfl (WL.fa rfl (fld72_5 _ _ _) rfl (WL.ld rfl (lR (f := .bool) iy4 r3_5 (h.st.at_ hSx hltx (hAx.sub 5 1))) rfl (WL.cl Tryz.call138 rfl rfl (h.call x138 r3_5) ?_ nop)))))
     rintro _ w1 ⟨rfl, O1, x1, h⟩
     refine WL.nx ?_
     refine W.sq (W.rg (WL.mv rfl rfl (WL.fa rfl (fld72_6 _ _ _) rfl (WL.ld rfl (lR (f := .st .expr) iy66 r3_6 (h.st.at_ hSx hltx (hAx.sub 6 16))) rfl (WL.cl Tryz.call144 rfl rfl (h.call xExpr r3_6) ?_ nop)))))
     rintro _ w1 ⟨rfl, O1, x1, h⟩
     refine WL.nx ?_
     refine W.sq (W.rg (WL.mv rfl rfl (WL.fa rfl (fld72_7 _ _ _) rfl (WL.ld rfl (lR (f := .st .expr) iy66 r3_7 (h.st.at_ hSx hltx (hAx.sub 22 16))) rfl (WL.cl Tryz.call144 rfl rfl (h.call xExpr r3_7) ?_ nop)))))
     rintro _ w1 ⟨rfl, O1, x1, h⟩
     refine WL.nx ?_
     refine W.sq (W.rg (WL.mv rfl rfl (WL.fa rfl (fld72_8 _ _ _) rfl (WL.ld rfl (lR (f := .st .type) iy63 r3_8 (h.st.at_ hSx hltx (hAx.sub 38 5))) rfl (WL.cl Tryz.call201 rfl rfl (h.call x201 r3_8) ?_ nop)))))
     rintro _ w1 ⟨rfl, O1, x1, h⟩
     refine WL.nx ?_
     refine W.sq (W.rg (WL.mv rfl rfl (WL.fa rfl (fld72_9 _ _ _) rfl (WL.ld rfl (lR (f := .list (.st .sort)) iy67 r3_9 (h.st.at_ hSx hltx (hAx.sub 43 1))) rfl (WL.cl Tryz.call245 rfl rfl (h.call x245 r3_9) ?_ nop)))))
     rintro _ w1 ⟨rfl, O1, x1, h⟩
     refine WL.nx ?_
     refine W.sq (W.rg (WL.mv rfl rfl (WL.fa rfl (fld72_10 _ _ _) rfl (WL.ld rfl (lR (f := .list (.st .param)) iy68 r3_10 (h.st.at_ hSx hltx (hAx.sub 44 1))) rfl (WL.cl Tryz.call199 rfl rfl (h.call (x199 (fun t' ht => IH t'.wt (Nat.lt_trans ht (fld_lt (by simp) hw2 hN)) t' (Nat.le_refl _))) r3_10) ?_ nop)))))
     rintro _ w1 ⟨rfl, O1, x1, h⟩
     refine WL.nx ?_
     refine W.sq (W.rg (WL.mv rfl rfl (WL.fa rfl (fld72_11 _ _ _) rfl (WL.ld rfl (load_list hv4 iy69 r3_11 (h.st.at_ hSx hltx (hAx.sub 45 1))) rfl (WL.len rfl (lS Tryz.underlying69) rfl (WL.cl Tryz.call137 rfl rfl h.len ?_ nop))))))
     rintro _ w1 ⟨rfl, O1, x1, h⟩
     refine WL.nx ?_
     refine W.sq (W.sq (W.rg (WL.an rfl rfl (WL.nx ?_))))
     refine W.bk (W.loop (ι := Nat × (Nat → Prop) × XW × World) (fun i => [(0, ptr p), (1, .slice g l.length cap), (4, .int .i64 (i1 : Int)), (5, ptr bx), (6, .int .i64 (i.1 : Int))])
      (fun i w' => w' = i.2.2.2 ∧ i.1 ≤ l4.length ∧ XS wb (plus w0 S bx) p most long Od wd (l4.drop i.1 ++ ((.list l5) :: a3_13 :: a3_14 :: a3_15 :: a3_16 :: [])) (encRL most long [a3_0, a3_1, a3_2, a3_3, a3_4, a3_5, a3_6, a3_7, a3_8, a3_9, a3_10, (.list l4), (.list l5), a3_13, a3_14, a3_15, a3_16] ({ x.1 with nest := x.1.nest + 1 }, false)) i.2.1 w' i.2.2.1) (fun i => l4.length - i.1) (0, O1, x1, w1) ⟨rfl, rfl, rfl, rfl, rfl, trivial⟩ ⟨rfl, Nat.zero_le _, h⟩ ?_)
     clear h
     rintro ⟨i6, O1, x1, _⟩ w1 ⟨rfl, hi, h⟩
     simp only at hi h ⊢
     refine W.sq (W.sq (W.rg (WL.mv rfl rfl (WL.fa rfl (fld72_11 _ _ _) rfl (WL.ld rfl (load_list hv4 iy69 r3_11 (h.st.at_ hSx hltx (hAx.sub 45 1))) rfl (WL.len rfl (lS Tryz.underlying69) rfl (WL.bi rfl rfl (run_lss (c := decide (i6 < l4.length)) (decide_eq_decide.2 Int.ofNat_lt.symm)) rfl (WL.nx (W.cond rfl (fun ht => W.skip fun a ha => tN ?_) (fun hf => W.exit fun a ha => tE (tE (eH (tN ?_)))))))))))))
     · have hil : i6 < l4.length := of_decide_eq_true ht
       obtain ⟨t7, hti7⟩ : ∃ t, l4[i6]? = some t := ⟨_, List.getElem?_eq_getElem hil⟩
       obtain ⟨b7, o7, ds7, hix7, hS7, hlt7, hA7, hr7⟩ := hget4 i6 t7 hti7
       have hw7 := T.wt_mem (List.mem_of_getElem? hti7)
       replace h := h.pop hti7
       refine W.run ha (W.sq (W.bk ?_))
       obtain ⟨fl8, rfl, hlen8, hF8⟩ := hr7.st_inv
       obtain ⟨a8_0, fl8, rfl, r8_0, hF8⟩ := hF8.cons_inv
       obtain ⟨a8_1, fl8, rfl, r8_1, hF8⟩ := hF8.cons_inv
       obtain rfl := hF8.nil_inv
       simp only [Nat.zero_add, Ty.size, SN.size] at r8_0 r8_1
       replace h := h.flat rfl
       refine W.sq (W.rg (WL.mv rfl rfl (WL.fa rfl (fld72_11 _ _ _) rfl (WL.ld rfl (load_list hv4 iy69 r3_11 (h.st.at_ hSx hltx (hAx.sub 45 1))) rfl (WL.mv rfl rfl (WL.ix rfl rfl (hix7 _ Tryz.underlying69 iy290 rfl) rfl (WL.fa rfl (fld290_0 _ _ _) rfl (WL.ld rfl (lR (f := .st .expr) iy66 r8_0 (h.st.at_ hS7 hlt7 (hA7.sub 0 16))) rfl (WL.cl Tryz.call144 rfl rfl (h.call xExpr r8_0) ?_ nop)))))))))
       rintro _ w1 ⟨rfl, O1, x1, h⟩
       refine WL.nx ?_
       refine W.rg (WL.mv rfl rfl (WL.fa rfl (fld72_11 _ _ _) rfl (WL.ld rfl (load_list hv4 iy69 r3_11 (h.st.at_ hSx hltx (hAx.sub 45 1))) rfl (WL.mv rfl rfl (WL.ix rfl rfl (hix7 _ Tryz.underlying69 iy290 rfl) rfl (WL.fa rfl (fld290_1 _ _ _) rfl (WL.ld rfl (lR (f := .list (.st .sort)) iy67 r8_1 (h.st.at_ hS7 hlt7 (hA7.sub 16 1))) rfl (WL.cl Tryz.call245 rfl rfl (h.call x245 r8_1) ?_ nop))))))))
       rintro _ w1 ⟨rfl, O1, x1, h⟩
       refine WL.nil fun a ha => bN (tN ?_)
       refine W.run ha (W.rg (WL.mv rfl rfl (WL.bi rfl rfl rfl rfl (WL.an rfl rfl (WL.nil fun a ha => tN ?_)))))
       exact ⟨(i6 + 1, O1, x1, w1), ha.weak ⟨rfl, rfl, rfl, rfl, congrArg some (inc_i64 (lt_len hil hml4)), trivial⟩, ⟨rfl, hil, h⟩, Nat.sub_lt_sub_left hil (Nat.lt_succ_self i6)⟩
     · have hend : i6 = l4.length := Nat.le_antisymm hi (Nat.le_of_not_lt (of_decide_eq_false hf))
       replace h := h.popped hend
       refine W.run ha ?_
       refine W.sq (W.rg (WL.mv rfl rfl (WL.fa rfl (fld72_12 _ _ _) rfl (WL.ld rfl (load_list hv5 iy70 r3_12 (h.st.at_ hSx hltx (hAx.sub 46 1))) rfl (WL.len rfl (lS Tryz.underlying70) rfl (WL.cl Tryz.call137 rfl rfl h.len ?_ nop))))))
       rintro _ w1 ⟨rfl, O1, x1, h⟩
       refine WL.nx ?_
       refine W.sq (W.sq (W.rg (WL.an rfl rfl (WL.nx ?_))))
       refine W.bk (W.loop (ι := Nat × (Nat → Prop) × XW × World) (fun i => [(0, ptr p), (1, .slice g l.length cap), (4, .int .i64 (i1 : Int)), (5, ptr bx), (7, .int .i64 (i.1 : Int))])
        (fun i w' => w' = i.2.2.2 ∧ i.1 ≤ l5.length ∧ XS wb (plus w0 S bx) p most long Od wd (l5.drop i.1 ++ (a3_13 :: a3_14 :: a3_15 :: a3_16 :: [])) (encRL most long [a3_0, a3_1, a3_2, a3_3, a3_4, a3_5, a3_6, a3_7, a3_8, a3_9, a3_10, (.list l4), (.list l5), a3_13, a3_14, a3_15, a3_16] ({ x.1 with nest := x.1.nest + 1 }, false)) i.2.1 w' i.2.2.1) (fun i => l5.length - i.1) (0, O1, x1, w1) ⟨rfl, rfl, rfl, rfl, rfl, trivial⟩ ⟨rfl, Nat.zero_le _, h⟩ ?_)
       clear h
       rintro ⟨i9, O1, x1, _⟩ w1 ⟨rfl, hi, h⟩
       simp only at hi h ⊢
       refine W.sq (W.sq (W.rg (WL.mv rfl rfl (WL.fa rfl (fld72_12 _ _ _) rfl (WL.ld rfl (load_list hv5 iy70 r3_12 (h.st.at_ hSx hltx (hAx.sub 46 1))) rfl (WL.len rfl (lS Tryz.underlying70) rfl (WL.bi rfl rfl (run_lss (c := decide (i9 < l5.length)) (decide_eq_decide.2 Int.ofNat_lt.symm)) rfl (WL.nx (W.cond rfl (fun ht => W.skip fun a ha => tN ?_) (fun hf => W.exit fun a ha => tE (tE (eH (tN ?_)))))))))))))
       · have hil : i9 < l5.length := of_decide_eq_true ht
         obtain ⟨t10, hti10⟩ : ∃ t, l5[i9]? = some t := ⟨_, List.getElem?_eq_getElem hil⟩
         obtain ⟨b10, o10, ds10, hix10, hS10, hlt10, hA10, hr10⟩ := hget5 i9 t10 hti10
         have hw10 := T.wt_mem (List.mem_of_getElem? hti10)
         replace h := h.pop hti10
         refine W.run ha (W.sq (W.bk ?_))
         obtain ⟨fl11, rfl, hlen11, hF11⟩ := hr10.st_inv
         obtain ⟨a11_0, fl11, rfl, r11_0, hF11⟩ := hF11.cons_inv
         obtain ⟨a11_1, fl11, rfl, r11_1, hF11⟩ := hF11.cons_inv
         obtain rfl := hF11.nil_inv
         simp only [Nat.zero_add, Ty.size] at r11_0 r11_1
         obtain ⟨l12, rfl⟩ := r11_0.is_list
         obtain ⟨g12, cap12, hv12, hml12, hget12⟩ := list_at r11_0
         replace h := h.flat rfl
         refine W.sq (W.rg (WL.mv rfl rfl (WL.fa rfl (fld72_12 _ _ _) rfl (WL.ld rfl (load_list hv5 iy70 r3_12 (h.st.at_ hSx hltx (hAx.sub 46 1))) rfl (WL.mv rfl rfl (WL.ix rfl rfl (hix10 _ Tryz.underlying70 iy294 rfl) rfl (WL.fa rfl (fld294_0 _ _ _) rfl (WL.ld rfl (load_list hv12 iy262 r11_0 (h.st.at_ hS10 hlt10 (hA10.sub 0 1))) rfl (WL.len rfl (lS Tryz.underlying262) rfl (WL.cl Tryz.call137 rfl rfl h.len ?_ nop))))))))))
         rintro _ w1 ⟨rfl, O1, x1, h⟩
         refine WL.nx ?_
         refine W.sq (W.sq (W.rg (WL.an rfl rfl (WL.nx ?_))))
         refine W.bk (W.loop (ι := Nat × (Nat → Prop) × XW × World) (fun i => [(0, ptr p), (1, .slice g l.length cap), (4, .int .i64 (i1 : Int)), (5, ptr bx), (7, .int .i64 (i9 : Int)), (8, .int .i64 (i.1 : Int))])
          (fun i w' => w' = i.2.2.2 ∧ i.1 ≤ l12.length ∧ XS wb (plus w0 S bx) p most long Od wd (l12.drop i.1 ++ (a11_1 :: (l5.drop (i9 + 1) ++ (a3_13 :: a3_14 :: a3_15 :: a3_16 :: [])))) (encRL most long [a3_0, a3_1, a3_2, a3_3, a3_4, a3_5, a3_6, a3_7, a3_8, a3_9, a3_10, (.list l4), (.list l5), a3_13, a3_14, a3_15, a3_16] ({ x.1 with nest := x.1.nest + 1 }, false)) i.2.1 w' i.2.2.1) (fun i => l12.length - i.1) (0, O1, x1, w1) ⟨rfl, rfl, rfl, rfl, rfl, rfl, trivial⟩ ⟨rfl, Nat.zero_le _, h⟩ ?_)
         clear h
         rintro ⟨i13, O1, x1, _⟩ w1 ⟨rfl, hi, h⟩
         simp only at hi h ⊢
         refine W.sq (W.sq (W.rg (WL.mv rfl rfl (WL.fa rfl (fld72_12 _ _ _) rfl (WL.ld rfl (load_list hv5 iy70 r3_12 (h.st.at_ hSx hltx (hAx.sub 46 1))) rfl (WL.mv rfl rfl (WL.ix rfl rfl (hix10 _ Tryz.underlying70 iy294 rfl) rfl (WL.fa rfl (fld294_0 _ _ _) rfl (WL.ld rfl (load_list hv12 iy262 r11_0 (h.st.at_ hS10 hlt10 (hA10.sub 0 1))) rfl (WL.len rfl (lS Tryz.underlying262) rfl (WL.bi rfl rfl (run_lss (c := decide (i13 < l12.length)) (decide_eq_decide.2 Int.ofNat_lt.symm)) rfl (WL.nx (W.cond rfl (fun ht => W.skip fun a ha => tN ?_) (fun hf => W.exit fun a ha => tE (tE (eH (tN ?_)))))))))))))))))
         · have hil : i13 < l12.length := of_decide_eq_true ht
           obtain ⟨t14, hti14⟩ : ∃ t, l12[i13]? = some t := ⟨_, List.getElem?_eq_getElem hil⟩
           obtain ⟨b14, o14, ds14, hix14, hS14, hlt14, hA14, hr14⟩ := hget12 i13 t14 hti14
           have hw14 := T.wt_mem (List.mem_of_getElem? hti14)
           replace h := h.pop hti14
           refine W.run ha (W.sq (W.bk ?_))
           refine W.rg (WL.mv rfl rfl (WL.fa rfl (fld72_12 _ _ _) rfl (WL.ld rfl (load_list hv5 iy70 r3_12 (h.st.at_ hSx hltx (hAx.sub 46 1))) rfl (WL.mv rfl rfl (WL.ix rfl rfl (hix10 _ Tryz.underlying70 iy294 rfl) rfl (WL.fa rfl (fld294_0 _ _ _) rfl (WL.ld rfl (load_list hv12 iy262 r11_0 (h.st.at_ hS10 hlt10 (hA10.sub 0 1))) rfl (WL.mv rfl rfl (WL.ix rfl rfl (hix14 _ Tryz.underlying262 iy3 rfl) rfl (WL.ld rfl (lR (f := .int) iy3 hr14 (h.st.at_ hS14 hlt14 hA14)) rfl (WL.cl Tryz.call139 rfl rfl (h.call x139 hr14) ?_ nop)))))))))))
           rintro _ w1 ⟨rfl, O1, x1, h⟩
           refine WL.nil fun a ha => bN (tN ?_)
           refine W.run ha (W.rg (WL.mv rfl rfl (WL.bi rfl rfl rfl rfl (WL.an rfl rfl (WL.nil fun a ha => tN ?_)))))
           exact ⟨(i13 + 1, O1, x1, w1), ha.weak ⟨rfl, rfl, rfl, rfl, rfl, congrArg some (inc_i64 (lt_len hil hml12)), trivial⟩, ⟨rfl, hil, h⟩, Nat.sub_lt_sub_left hil (Nat.lt_succ_self i13)⟩
         · have hend : i13 = l12.length := Nat.le_antisymm hi (Nat.le_of_not_lt (of_decide_eq_false hf))
           replace h := h.popped hend
           refine W.run ha ?_
           refine W.rg (WL.mv rfl rfl (WL.fa rfl (fld72_12 _ _ _) rfl (WL.ld rfl (load_list hv5 iy70 r3_12 (h.st.at_ hSx hltx (hAx.sub 46 1))) rfl (WL.mv rfl rfl (WL.ix rfl rfl (hix10 _ Tryz.underlying70 iy294 rfl) rfl (WL.fa rfl (fld294_1 _ _ _) rfl (WL.ld rfl (lR (f := .list (.st .instr)) iy56 r11_1 (h.st.at_ hS10 hlt10 (hA10.sub 1 1))) rfl (WL.cl Tryz.call200 rfl rfl (h.call (IH _ (Nat.lt_trans (fld_lt (by simp) hw10 (Nat.le_refl _)) (fld_lt (by simp) hw2 hN)) _ (Nat.le_refl _)) r11_1) ?_ nop))))))))
           rintro _ w1 ⟨rfl, O1, x1, h⟩
           refine WL.nil fun a ha => bN (tN ?_)
           refine W.run ha (W.rg (WL.mv rfl rfl (WL.bi rfl rfl rfl rfl (WL.an rfl rfl (WL.nil fun a ha => tN ?_)))))
           exact ⟨(i9 + 1, O1, x1, w1), ha.weak ⟨rfl, rfl, rfl, rfl, congrArg some (inc_i64 (lt_len hil hml5)), trivial⟩, ⟨rfl, hil, h⟩, Nat.sub_lt_sub_left hil (Nat.lt_succ_self i9)⟩
       · have hend : i9 = l5.length := Nat.le_antisymm hi (Nat.le_of_not_lt (of_decide_eq_false hf))
         replace h := h.popped hend
         refine W.run ha ?_
         refine W.sq (W.rg (WL.mv rfl rfl (WL.fa rfl (fld72_13 _ _ _) rfl (WL.ld rfl (lR (f := .list (.st .instr)) iy56 r3_13 (h.st.at_ hSx hltx (hAx.sub 47 1))) rfl (WL.cl Tryz.call200 rfl rfl (h.call (IH _ (fld_lt (by simp) hw2 hN) _ (Nat.le_refl _)) r3_13) ?_ nop)))))
         rintro _ w1 ⟨rfl, O1, x1, h⟩
         refine WL.nx ?_
         refine W.sq (W.rg (WL.mv rfl rfl (WL.fa rfl (fld72_14 _ _ _) rfl (WL.ld rfl (lR (f := .list (.st .instr)) iy56 r3_14 (h.st.at_ hSx hltx (hAx.sub 48 1))) rfl (WL.cl Tryz.call200 rfl rfl (h.call (IH _ (fld_lt (by simp) hw2 hN) _ (Nat.le_refl _)) r3_14) ?_ nop)))))
         rintro _ w1 ⟨rfl, O1, x1, h⟩
         refine WL.nx ?_
         refine W.sq (W.rg (WL.mv rfl rfl (WL.fa rfl (fld72_15 _ _ _) rfl (WL.ld rfl (lR (f := .int) iy3 r3_15 (h.st.at_ hSx hltx (hAx.sub 49 1))) rfl (WL.cl Tryz.call139 rfl rfl (h.call x139 r3_15) ?_ nop)))))
         rintro _ w1 ⟨rfl, O1, x1, h⟩
         refine WL.nx ?_
         refine W.rg (WL.mv rfl rfl (WL.fa rfl (fld72_16 _ _ _) rfl (WL.ld rfl (lR (f := .int) iy3 r3_16 (h.st.at_ hSx hltx (hAx.sub 50 1))) rfl (WL.cl Tryz.call139 rfl rfl (h.call x139 r3_16) ?_ nop))))
         rintro _ w1 ⟨rfl, O1, x1, h⟩
         refine WL.nil fun a ha => tN ?_
         obtain ⟨ff, hs⟩ := h.fin
         have hnn : (encRL most long [a3_0, a3_1, a3_2, a3_3, a3_4, a3_5, a3_6, a3_7, a3_8, a3_9, a3_10, (.list l4), (.list l5), a3_13, a3_14, a3_15, a3_16] ({ x.1 with nest := x.1.nest + 1 }, false)).1.nest = x.1.nest + 1 := (encRL_use (most := most) (long := long) [a3_0, a3_1, a3_2, a3_3, a3_4, a3_5, a3_6, a3_7, a3_8, a3_9, a3_10, (.list l4), (.list l5), a3_13, a3_14, a3_15, a3_16] ({ x.1 with nest := x.1.nest + 1 }, false) (use_down hu)).2
         have e := encR_deepF (most := most) (long := long) (l := [a3_0, a3_1, a3_2, a3_3, a3_4, a3_5, a3_6, a3_7, a3_8, a3_9, a3_10, (.list l4), (.list l5), a3_13, a3_14, a3_15, a3_16]) (sn := .instr) (x := x) rfl hC
         clear h
         generalize encRL most long [a3_0, a3_1, a3_2, a3_3, a3_4, a3_5, a3_6, a3_7, a3_8, a3_9, a3_10, (.list l4), (.list l5), a3_13, a3_14, a3_15, a3_16] ({ x.1 with nest := x.1.nest + 1 }, false) = tgt at hs hnn e
         obtain ⟨_, hc2, _, _, _, setN, _⟩ := hs.flags
         obtain ⟨w2, O2, hstu, fu, hu2⟩ := setN (tgt.1.nest - 1)
         refine W.run ha (W.rg (WL.mv rfl rfl (WL.nc rfl rfl (WL.fa rfl (field173_2 _ _ _) rfl (WL.ld rfl (load1 ty3 hc2) rfl (WL.bi rfl rfl (run_dec hnn (use_nest hu)) rfl (WL.nc rfl rfl (WL.fa rfl (field173_2 _ _ _) rfl (WL.so rfl rfl hstu (WL.nil fun a ha => bN (tN ?_)))))))))))
         have h := h0.next ((fb.drop (fun _ h => h.elim)).trans (fd.trans (ff.trans fu))) (by rw [e]; exact h0.st.unbase fb hu2)
         clear e
         obtain ⟨x1, hx1e⟩ : ∃ x1, x1 = encR most long (.agg .instr [a3_0, a3_1, a3_2, a3_3, a3_4, a3_5, a3_6, a3_7, a3_8, a3_9, a3_10, (.list l4), (.list l5), a3_13, a3_14, a3_15, a3_16]) x := ⟨_, rfl⟩
         rw [← hx1e] at h
         obtain ⟨O1, hO1e⟩ : ∃ O1, O1 = O2 := ⟨_, rfl⟩
         obtain ⟨w1, hw1e⟩ : ∃ w1, w1 = w2 := ⟨_, rfl⟩
         rw [← hO1e, ← hw1e] at h
         rw [← hw1e]
         refine W.run ha (W.rg (WL.mv rfl rfl (WL.bi rfl rfl rfl rfl (WL.an rfl rfl (WL.nil fun a ha => tN ?_)))))
         exact ⟨(i1 + 1, O1, x1, w1), ha.weak ⟨rfl, rfl, congrArg some (inc_i64 (lt_len hil hml)), trivial⟩, ⟨rfl, hil, h⟩, Nat.sub_lt_sub_left hil (Nat.lt_succ_self i1)⟩
   · have hC : x.2 = true ∨ most < x.1.nest + 1 ∨ long < x.1.b.length := by simpa only [Bool.not_eq_false', decide_eq_true_eq] using hf
     rw [decide_eq_true hC] at hx2
     have hnn : x.1.nest + 1 = x.1.nest + 1 := rfl
     obtain ⟨_, hc2, _, _, _, setN, _⟩ := hx2.flags
     simp only at hc2 setN
     obtain ⟨w2, O2, hstu, fu, hu2⟩ := setN (x.1.nest + 1 - 1)
     refine W.run ha (W.rg (WL.mv rfl rfl (WL.nc rfl rfl (WL.fa rfl (field173_2 _ _ _) rfl (WL.ld rfl (load1 ty3 hc2) rfl (WL.bi rfl rfl (run_dec hnn (use_nest hu)) rfl (WL.nc rfl rfl (WL.fa rfl (field173_2 _ _ _) rfl (WL.so rfl rfl hstu (WL.nil fun a ha => bN (tN ?_)))))))))))
     have e := encR_deepT (most := most) (long := long) (l := [a3_0, a3_1, a3_2, a3_3, a3_4, a3_5, a3_6, a3_7, a3_8, a3_9, a3_10, (.list l4), (.list l5), a3_13, a3_14, a3_15, a3_16]) (sn := .instr) (x := x) rfl hC
     have h := h0.next ((fb.drop (fun _ h => h.elim)).trans (fd.trans fu)) (by rw [e]; exact h0.st.unbase fb hu2)
     clear e
     obtain ⟨x1, hx1e⟩ : ∃ x1, x1 = encR most long (.agg .instr [a3_0, a3_1, a3_2, a3_3, a3_4, a3_5, a3_6, a3_7, a3_8, a3_9, a3_10, (.list l4), (.list l5), a3_13, a3_14, a3_15, a3_16]) x := ⟨_, rfl⟩
     rw [← hx1e] at h
     obtain ⟨O1, hO1e⟩ : ∃ O1, O1 = O2 := ⟨_, rfl⟩
     obtain ⟨w1, hw1e⟩ : ∃ w1, w1 = w2 := ⟨_, rfl⟩
     rw [← hO1e, ← hw1e] at h
     rw [← hw1e]
     refine W.run ha (W.rg (WL.mv rfl rfl (WL.bi rfl rfl rfl rfl (WL.an rfl rfl (WL.nil fun a ha => tN ?_)))))
     exact ⟨(i1 + 1, O1, x1, w1), ha.weak ⟨rfl, rfl, congrArg some (inc_i64 (lt_len hil hml)), trivial⟩, ⟨rfl, hil, h⟩, Nat.sub_lt_sub_left hil (Nat.lt_succ_self i1)⟩
 · have hend : i1 = l.length := Nat.le_antisymm hi (Nat.le_of_not_lt (of_decide_eq_false hf))
   replace h := h.popped hend
   obtain ⟨ff, hs⟩ := h.fin
   simp only [encRL] at hs
   exact post_end0 rfl ha ⟨rfl, O1, ff, hs⟩
theorem xInstrs {t : T} : XEnc 200 (.list (.st .instr)) t := x200 t.wt t (Nat.le_refl _)
theorem xParams {t : T} : XEnc 199 (.list (.st .param)) t := x199 (fun _ _ => xInstrs)
set_option maxHeartbeats 1000000 in
theorem x140 {t : T} : XEnc 140 (.list (.st .template)) t := by
 intro w0 S p most long x O w cs hr hx hu
 obtain ⟨l, rfl⟩ := hr.is_list
 obtain ⟨g, cap, hv, hml, hget⟩ := list_at hr
 rw [hv]
 have h := XS.start (r := [.list l]) hx (use_list hu)
 obtain ⟨Z, hz, hzl⟩ : ∃ Z : List Value, (∀ w, (zeroValue 74).run Tryz.prog w = .ok (.agg Z.toArray) w) ∧ Z.length = 12 := ⟨_, Tryz.zeroValue74, rfl⟩
 refine cW 68 Tryz.func140 rfl rfl rfl ?_
 refine W.sq (W.rg (WL.mv rfl rfl (WL.mv rfl rfl (WL.len rfl (lS Tryz.underlying27) rfl (WL.cl Tryz.call137 rfl rfl h.len ?_ nop)))))
 rintro _ w1 ⟨rfl, O1, x1, h⟩
 refine WL.nx ?_
 refine W.sq (W.rg (WL.an rfl rfl (WL.nx ?_)))
 refine W.bk (W.loop (ι := Nat × (Nat → Prop) × XW × World) (fun i => [(0, ptr p), (1, .slice g l.length cap), (4, .int .i64 (i.1 : Int))])
  (fun i w' => w' = i.2.2.2 ∧ i.1 ≤ l.length ∧ XS w0 S p most long O w (l.drop i.1 ++ ([])) (encRL most long [.list l] x) i.2.1 w' i.2.2.1) (fun i => l.length - i.1) (0, O1, x1, w1) ⟨rfl, rfl, rfl, trivial⟩ ⟨rfl, Nat.zero_le _, h⟩ ?_)
 clear h
 rintro ⟨i15, O1, x1, _⟩ w1 ⟨rfl, hi, h⟩
 simp only at hi h ⊢
 refine W.sq (W.sq (W.rg (WL.mv rfl rfl (WL.mv rfl rfl (WL.len rfl (lS Tryz.underlying27) rfl (WL.bi rfl rfl (run_lss (c := decide (i15 < l.length)) (decide_eq_decide.2 Int.ofNat_lt.symm)) rfl (WL.nx (W.cond rfl (fun ht => W.skip fun a ha => tN ?_) (fun hf => W.exit fun a ha => tE (tE (eH ?_)))))))))))
 · have hil : i15 < l.length := of_decide_eq_true ht
   obtain ⟨t16, hti16⟩ : ∃ t, l[i15]? = some t := ⟨_, List.getElem?_eq_getElem hil⟩
   obtain ⟨b16, o16, ds16, hix16, hS16, hlt16, hA16, hr16⟩ := hget i15 t16 hti16
   have hw16 := T.wt_mem (List.mem_of_getElem? hti16)
   replace h := h.pop hti16
   refine W.run ha (W.sq (W.bk ?_))
   have hone := Rep.one _ _ _ hr16
   obtain ⟨wb, hstb, ab, fb⟩ := put_new (w := w1) (z := .agg Z.toArray) (zs := Z) iy74 rfl hzl hone.1 hone.2
   refine W.sq (W.rg (WL.mv rfl rfl (WL.mv rfl rfl (WL.ix rfl rfl (hix16 _ Tryz.underlying27 iy74 rfl) rfl (WL.ld rfl (lR (f := .st .template) iy74 hr16 (h.st.at_ hS16 hlt16 hA16)) rfl (WL.alloc (hz _) rfl (WL.so rfl rfl hstb ?_)))))))
   have hx1 := h.st.rebase fb (Nat.le_refl _) ab.lt
   have hrb := hr16.plus h.st fb w1.heap.size
   have hub := h.hd
   generalize w1.heap.size = bx at ab hx1 hrb ⊢
   have hAx := ab.all
   have hltx := ab.lt
   have hSx : plus w0 S bx bx := .inr rfl
   obtain ⟨fl17, rfl, hlen17, hF17⟩ := hrb.st_inv
   obtain ⟨a17_0, fl17, rfl, r17_0, hF17⟩ := hF17.cons_inv
   obtain ⟨a17_1, fl17, rfl, r17_1, hF17⟩ := hF17.cons_inv
   obtain ⟨a17_2, fl17, rfl, r17_2, hF17⟩ := hF17.cons_inv
   obtain ⟨a17_3, fl17, rfl, r17_3, hF17⟩ := hF17.cons_inv
   obtain ⟨a17_4, fl17, rfl, r17_4, hF17⟩ := hF17.cons_inv
   obtain ⟨a17_5, fl17, rfl, r17_5, hF17⟩ := hF17.cons_inv
   obtain ⟨a17_6, fl17, rfl, r17_6, hF17⟩ := hF17.cons_inv
   obtain ⟨a17_7, fl17, rfl, r17_7, hF17⟩ := hF17.cons_inv
   obtain ⟨a17_8, fl17, rfl, r17_8, hF17⟩ := hF17.cons_inv
   obtain ⟨a17_9, fl17, rfl, r17_9, hF17⟩ := hF17.cons_inv
   obtain ⟨a17_10, fl17, rfl, r17_10, hF17⟩ := hF17.cons_inv
   obtain ⟨a17_11, fl17, rfl, r17_11, hF17⟩ := hF17.cons_inv
   obtain rfl := hF17.nil_inv
   simp only [Nat.zero_add, Nat.reduceAdd, Ty.size] at r17_0 r17_1 r17_2 r17_3 r17_4 r17_5 r17_6 r17_7 r17_8 r17_9 r17_10 r17_11
   refine WL.nx (W.weak [(0, ptr p), (1, .slice g l.length cap), (4, .int .i64 (i15 : Int)), (5, ptr bx)] ⟨rfl, rfl, rfl, rfl, trivial⟩ ?_)
   obtain ⟨x, hxx⟩ : ∃ x, x = x1 := ⟨_, rfl⟩
   obtain ⟨Ob, hOb⟩ : ∃ Ob, Ob = O1 := ⟨_, rfl⟩
   subst hxx hOb
   have h0 := h
   clear h
   have h := XS.start (r := [a17_0, a17_1, a17_2, a17_3, a17_4, a17_5, a17_6, a17_7, a17_8, a17_9, a17_10, a17_11]) hx1 (use_flat hub)
   refine W.sq (W.rg (WL.mv rfl rfl (WL.fa rfl (fld74_0 _ _ _) rfl (WL.ld rfl (lR (f := .list (.st .expr)) iy64 r17_0 (h.st.at_ hSx hltx (hAx.sub 0 1))) rfl (WL.cl Tryz.call143 rfl rfl (h.call xExprs r17_0) ?_ nop)))))
   rintro _ w1 ⟨rfl, O1, x1, h⟩
   refine WL.nx ?_
   refine W.sq (W.rg (WL.mv rfl rfl (WL.fa rfl (fld74_1 _ _ _) rfl (WL.ld rfl (lR (f := .str) iy9 r17_1 (h.st.at_ hSx hltx (hAx.sub 1 1))) rfl (WL.cl Tryz.call136 rfl rfl (h.call x136 r17_1) ?_ nop)))))
   rintro _ w1 ⟨rfl, O1, x1, h⟩
   refine WL.nx ?_
   refine W.sq (W.rg (WL.mv rfl rfl (WL.fa rfl (fld74_2 _ _ _) rfl (WL.ld rfl (lR (f := .list (.str)) iy44 r17_2 (h.st.at_ hSx hltx (hAx.sub 2 1))) rfl (WL.cl Tryz.call145 rfl rfl (h.call x145 r17_2) ?_ nop)))))
   rintro _ w1 ⟨rfl, O1, x1, h⟩
   refine WL.nx ?_
   refine W.sq (W.rg (WL.mv rfl rfl (WL.fa rfl (fld74_3 _ _ _) rfl (WL.ld rfl (lR (f := .bool) iy4 r17_3 (h.st.at_ hSx hltx (hAx.sub 3 1))) rfl (WL.cl Tryz.call138 rfl rfl (h.call x138 r17_3) ?_ nop)))))
   rintro _ w1 ⟨rfl, O1, x1, h⟩
   refine WL.nx ?_
   refine W.sq (W.rg (WL.mv rfl rfl (WL.fa rfl (fld74_4 _ _ _) rfl (WL.ld rfl (lR (f := .str) iy9 r17_4 (h.st.at_ hSx hltx (hAx.sub 4 1))) rfl (WL.cl Tryz.call136 rfl rfl (h.call x136 r17_4) ?_ nop)))))
   rintro _ w1 ⟨rfl, O1, x1, h⟩
   refine WL.nx ?_
   refine W.sq (W.rg (WL.mv rfl rfl (WL.fa rfl (fld74_5 _ _ _) rfl (WL.ld rfl (lR (f := .list (.st .param)) iy68 r17_5 (h.st.at_ hSx hltx (hAx.sub 5 1))) rfl (WL.cl Tryz.call199 rfl rfl (h.call xParams r17_5) ?_ nop)))))
   rintro _ w1 ⟨rfl, O1, x1, h⟩
   refine WL.nx ?_
   refine W.sq (W.rg (WL.mv rfl rfl (WL.fa rfl (fld74_6 _ _ _) rfl (WL.ld rfl (lR (f := .list (.st .instr)) iy56 r17_6 (h.st.at_ hSx hltx (hAx.sub 6 1))) rfl (WL.cl Tryz.call200 rfl rfl (h.call xInstrs r17_6) ?_ nop)))))
   rintro _ w1 ⟨rfl, O1, x1, h⟩
   refine WL.nx ?_
   refine W.sq (W.rg (WL.mv rfl rfl (WL.fa rfl (fld74_7 _ _ _) rfl (WL.ld rfl (lR (f := .str) iy9 r17_7 (h.st.at_ hSx hltx (hAx.sub 7 1))) rfl (WL.cl Tryz.call136 rfl rfl (h.call x136 r17_7) ?_ nop)))))
   rintro _ w1 ⟨rfl, O1, x1, h⟩
   refine WL.nx ?_
   refine W.sq (W.rg (WL.mv rfl rfl (WL.fa rfl (fld74_8 _ _ _) rfl (WL.ld rfl (lR (f := .int) iy3 r17_8 (h.st.at_ hSx hltx (hAx.sub 8 1))) rfl (WL.cl Tryz.call139 rfl rfl (h.call x139 r17_8) ?_ nop)))))
   rintro _ w1 ⟨rfl, O1, x1, h⟩
   refine WL.nx ?_
   refine W.sq (W.rg (WL.mv rfl rfl (WL.fa rfl (fld74_9 _ _ _) rfl (WL.ld rfl (lR (f := .int) iy3 r17_9 (h.st.at_ hSx hltx (hAx.sub 9 1))) rfl (WL.cl Tryz.call139 rfl rfl (h.call x139 r17_9) ?_ nop)))))
   rintro _ w1 ⟨rfl, O1, x1, h⟩
   refine WL.nx ?_
   refine W.sq (W.rg (WL.mv rfl rfl (WL.fa rfl (fld74_10 _ _ _) rfl (WL.ld rfl (lR (f := .int) iy3 r17_10 (h.st.at_ hSx hltx (hAx.sub 10 1))) rfl (WL.cl Tryz.call139 rfl rfl (h.call x139 r17_10) ?_ nop)))))
   rintro _ w1 ⟨rfl, O1, x1, h⟩
   refine WL.nx ?_
   refine W.rg (WL.mv rfl rfl (WL.fa rfl (fld74_11 _ _ _) rfl (WL.ld rfl (lR (f := .int) iy3 r17_11 (h.st.at_ hSx hltx (hAx.sub 11 1))) rfl (WL.cl Tryz.call139 rfl rfl (h.call x139 r17_11) ?_ nop))))
   rintro _ w1 ⟨rfl, O1, x1, h⟩
   refine WL.nil fun a ha => bN (tN ?_)
   obtain ⟨ff, hs⟩ := h.fin
   have h := h0.next ((fb.drop (fun _ h => h.elim)).trans ff) (by simp only [encR, SN.deep]; exact h0.st.unbase fb hs)
   generalize encR most long _ x = x1 at h
   refine W.run ha (W.rg (WL.mv rfl rfl (WL.bi rfl rfl rfl rfl (WL.an rfl rfl (WL.nil fun a ha => tN ?_)))))
   exact ⟨(i15 + 1, O1, x1, w1), ha.weak ⟨rfl, rfl, congrArg some (inc_i64 (lt_len hil hml)), trivial⟩, ⟨rfl, hil, h⟩, Nat.sub_lt_sub_left hil (Nat.lt_succ_self i15)⟩
 · have hend : i15 = l.length := Nat.le_antisymm hi (Nat.le_of_not_lt (of_decide_eq_false hf))
   replace h := h.popped hend
   obtain ⟨ff, hs⟩ := h.fin
   simp only [encRL] at hs
   exact post_end0 rfl ha ⟨rfl, O1, ff, hs⟩
set_option maxHeartbeats 1000000 in
theorem x141 {t : T} : XEnc 141 (.list (.st .dfn)) t := by
 intro w0 S p most long x O w cs hr hx hu
 obtain ⟨l, rfl⟩ := hr.is_list
 obtain ⟨g, cap, hv, hml, hget⟩ := list_at hr
 rw [hv]
 have h := XS.start (r := [.list l]) hx (use_list hu)
 obtain ⟨Z, hz, hzl⟩ : ∃ Z : List Value, (∀ w, (zeroValue 140).run Tryz.prog w = .ok (.agg Z.toArray) w) ∧ Z.length = 27 := ⟨_, Tryz.zeroValue140, rfl⟩
 refine cW 52 Tryz.func141 rfl rfl rfl ?_
 refine W.sq (W.rg (WL.mv rfl rfl (WL.mv rfl rfl (WL.len rfl (lS Tryz.underlying28) rfl (WL.cl Tryz.call137 rfl rfl h.len ?_ nop)))))
 rintro _ w1 ⟨rfl, O1, x1, h⟩
 refine WL.nx ?_
 refine W.sq (W.rg (WL.an rfl rfl (WL.nx ?_)))
 refine W.bk (W.loop (ι := Nat × (Nat → Prop) × XW × World) (fun i => [(0, ptr p), (1, .slice g l.length cap), (4, .int .i64 (i.1 : Int))])
  (fun i w' => w' = i.2.2.2 ∧ i.1 ≤ l.length ∧ XS w0 S p most long O w (l.drop i.1 ++ ([])) (encRL most long [.list l] x) i.2.1 w' i.2.2.1) (fun i => l.length - i.1) (0, O1, x1, w1) ⟨rfl, rfl, rfl, trivial⟩ ⟨rfl, Nat.zero_le _, h⟩ ?_)
 clear h
 rintro ⟨i18, O1, x1, _⟩ w1 ⟨rfl, hi, h⟩
 simp only at hi h ⊢
 refine W.sq (W.sq (W.rg (WL.mv rfl rfl (WL.mv rfl rfl (WL.len rfl (lS Tryz.underlying28) rfl (WL.bi rfl rfl (run_lss (c := decide (i18 < l.length)) (decide_eq_decide.2 Int.ofNat_lt.symm)) rfl (WL.nx (W.cond rfl (fun ht => W.skip fun a ha => tN ?_) (fun hf => W.exit fun a ha => tE (tE (eH ?_)))))))))))
 · have hil : i18 < l.length := of_decide_eq_true ht
   obtain ⟨t19, hti19⟩ : ∃ t, l[i18]? = some t := ⟨_, List.getElem?_eq_getElem hil⟩
   obtain ⟨b19, o19, ds19, hix19, hS19, hlt19, hA19, hr19⟩ := hget i18 t19 hti19
   have hw19 := T.wt_mem (List.mem_of_getElem? hti19)
   replace h := h.pop hti19
   refine W.run ha (W.sq (W.bk ?_))
   have hone := Rep.one _ _ _ hr19
   obtain ⟨wb, hstb, ab, fb⟩ := put_new (w := w1) (z := .agg Z.toArray) (zs := Z) iy140 rfl hzl hone.1 hone.2
   refine W.sq (W.rg (WL.mv rfl rfl (WL.mv rfl rfl (WL.ix rfl rfl (hix19 _ Tryz.underlying28 iy140 rfl) rfl (WL.ld rfl (lR (f := .st .dfn) iy140 hr19 (h.st.at_ hS19 hlt19 hA19)) rfl (WL.alloc (hz _) rfl (WL.so rfl rfl hstb ?_)))))))
   have hx1 := h.st.rebase fb (Nat.le_refl _) ab.lt
   have hrb := hr19.plus h.st fb w1.heap.size
   have hub := h.hd
   generalize w1.heap.size = bx at ab hx1 hrb ⊢
   have hAx := ab.all
   have hltx := ab.lt
   have hSx : plus w0 S bx bx := .inr rfl
   obtain ⟨fl20, rfl, hlen20, hF20⟩ := hrb.st_inv
   obtain ⟨a20_0, fl20, rfl, r20_0, hF20⟩ := hF20.cons_inv
   obtain ⟨a20_1, fl20, rfl, r20_1, hF20⟩ := hF20.cons_inv
   obtain ⟨a20_2, fl20, rfl, r20_2, hF20⟩ := hF20.cons_inv
   obtain ⟨a20_3, fl20, rfl, r20_3, hF20⟩ := hF20.cons_inv
   obtain ⟨a20_4, fl20, rfl, r20_4, hF20⟩ := hF20.cons_inv
   obtain ⟨a20_5, fl20, rfl, r20_5, hF20⟩ := hF20.cons_inv
   obtain ⟨a20_6, fl20, rfl, r20_6, hF20⟩ := hF20.cons_inv
   obtain ⟨a20_7, fl20, rfl, r20_7, hF20⟩ := hF20.cons_inv
   obtain rfl := hF20.nil_inv
   simp only [Nat.zero_add, Nat.reduceAdd, Ty.size, SN.size] at r20_0 r20_1 r20_2 r20_3 r20_4 r20_5 r20_6 r20_7
   refine WL.nx (W.weak [(0, ptr p), (1, .slice g l.length cap), (4, .int .i64 (i18 : Int)), (5, ptr bx)] ⟨rfl, rfl, rfl, rfl, trivial⟩ ?_)
   obtain ⟨x, hxx⟩ : ∃ x, x = x1 := ⟨_, rfl⟩
   obtain ⟨Ob, hOb⟩ : ∃ Ob, Ob = O1 := ⟨_, rfl⟩
   subst hxx hOb
   have h0 := h
   clear h
   have h := XS.start (r := [a20_0, a20_1, a20_2, a20_3, a20_4, a20_5, a20_6, a20_7]) hx1 (use_flat hub)
   refine W.sq (W.rg (WL.mv rfl rfl (WL.fa rfl (fld140_0 _ _ _) rfl (WL.ld rfl (lR (f := .str) iy9 r20_0 (h.st.at_ hSx hltx (hAx.sub 0 1))) rfl (WL.cl Tryz.call136 rfl rfl (h.call x136 r20_0) ?_ nop)))))
   rintro _ w1 ⟨rfl, O1, x1, h⟩
   refine WL.nx ?_
   refine W.sq (W.rg (WL.mv rfl rfl (WL.fa rfl (fld140_1 _ _ _) rfl (WL.ld rfl (lR (f := .list (.st .param)) iy68 r20_1 (h.st.at_ hSx hltx (hAx.sub 1 1))) rfl (WL.cl Tryz.call199 rfl rfl (h.call xParams r20_1) ?_ nop)))))
   rintro _ w1 ⟨rfl, O1, x1, h⟩
   refine WL.nx ?_
   refine W.sq (W.rg (WL.mv rfl rfl (WL.fa rfl (fld140_2 _ _ _) rfl (WL.ld rfl (lR (f := .st .type) iy63 r20_2 (h.st.at_ hSx hltx (hAx.sub 2 5))) rfl (WL.cl Tryz.call201 rfl rfl (h.call x201 r20_2) ?_ nop)))))
   rintro _ w1 ⟨rfl, O1, x1, h⟩
   refine WL.nx ?_
   refine W.sq (W.rg (WL.mv rfl rfl (WL.fa rfl (fld140_3 _ _ _) rfl (WL.ld rfl (lR (f := .st .expr) iy66 r20_3 (h.st.at_ hSx hltx (hAx.sub 7 16))) rfl (WL.cl Tryz.call144 rfl rfl (h.call xExpr r20_3) ?_ nop)))))
   rintro _ w1 ⟨rfl, O1, x1, h⟩
   refine WL.nx ?_
   refine W.sq (W.rg (WL.mv rfl rfl (WL.fa rfl (fld140_4 _ _ _) rfl (WL.ld rfl (lR (f := .str) iy9 r20_4 (h.st.at_ hSx hltx (hAx.sub 23 1))) rfl (WL.cl Tryz.call136 rfl rfl (h.call x136 r20_4) ?_ nop)))))
   rintro _ w1 ⟨rfl, O1, x1, h⟩
   refine WL.nx ?_
   refine W.sq (W.rg (WL.mv rfl rfl (WL.fa rfl (fld140_5 _ _ _) rfl (WL.ld rfl (lR (f := .int) iy3 r20_5 (h.st.at_ hSx hltx (hAx.sub 24 1))) rfl (WL.cl Tryz.call139 rfl rfl (h.call x139 r20_5) ?_ nop)))))
   rintro _ w1 ⟨rfl, O1, x1, h⟩
   refine WL.nx ?_
   refine W.sq (W.rg (WL.mv rfl rfl (WL.fa rfl (fld140_6 _ _ _) rfl (WL.ld rfl (lR (f := .int) iy3 r20_6 (h.st.at_ hSx hltx (hAx.sub 25 1))) rfl (WL.cl Tryz.call139 rfl rfl (h.call x139 r20_6) ?_ nop)))))
   rintro _ w1 ⟨rfl, O1, x1, h⟩
   refine WL.nx ?_
   refine W.rg (WL.mv rfl rfl (WL.fa rfl (fld140_7 _ _ _) rfl (WL.ld rfl (lR (f := .int) iy3 r20_7 (h.st.at_ hSx hltx (hAx.sub 26 1))) rfl (WL.cl Tryz.call139 rfl rfl (h.call x139 r20_7) ?_ nop))))
   rintro _ w1 ⟨rfl, O1, x1, h⟩
   refine WL.nil fun a ha => bN (tN ?_)
   obtain ⟨ff, hs⟩ := h.fin
   have h := h0.next ((fb.drop (fun _ h => h.elim)).trans ff) (by simp only [encR, SN.deep]; exact h0.st.unbase fb hs)
   generalize encR most long _ x = x1 at h
   refine W.run ha (W.rg (WL.mv rfl rfl (WL.bi rfl rfl rfl rfl (WL.an rfl rfl (WL.nil fun a ha => tN ?_)))))
   exact ⟨(i18 + 1, O1, x1, w1), ha.weak ⟨rfl, rfl, congrArg some (inc_i64 (lt_len hil hml)), trivial⟩, ⟨rfl, hil, h⟩, Nat.sub_lt_sub_left hil (Nat.lt_succ_self i18)⟩
 · have hend : i18 = l.length := Nat.le_antisymm hi (Nat.le_of_not_lt (of_decide_eq_false hf))
   replace h := h.popped hend
   obtain ⟨ff, hs⟩ := h.fin
   simp only [encRL] at hs
   exact post_end0 rfl ha ⟨rfl, O1, ff, hs⟩
set_option maxHeartbeats 1000000 in
theorem x142 {t : T} : XEnc 142 (.list (.st .global)) t := by
 intro w0 S p most long x O w cs hr hx hu
 obtain ⟨l, rfl⟩ := hr.is_list
 obtain ⟨g, cap, hv, hml, hget⟩ := list_at hr
 rw [hv]
 have h := XS.start (r := [.list l]) hx (use_list hu)
 obtain ⟨Z, hz, hzl⟩ : ∃ Z : List Value, (∀ w, (zeroValue 144).run Tryz.prog w = .ok (.agg Z.toArray) w) ∧ Z.length = 29 := ⟨_, Tryz.zeroValue144, rfl⟩
 refine cW 60 Tryz.func142 rfl rfl rfl ?_
 refine W.sq (W.rg (WL.mv rfl rfl (WL.mv rfl rfl (WL.len rfl (lS Tryz.underlying29) rfl (WL.cl Tryz.call137 rfl rfl h.len ?_ nop)))))
 rintro _ w1 ⟨rfl, O1, x1, h⟩
 refine WL.nx ?_
 refine W.sq (W.rg (WL.an rfl rfl (WL.nx ?_)))
 refine W.bk (W.loop (ι := Nat × (Nat → Prop) × XW × World) (fun i => [(0, ptr p), (1, .slice g l.length cap), (4, .int .i64 (i.1 : Int))])
  (fun i w' => w' = i.2.2.2 ∧ i.1 ≤ l.length ∧ XS w0 S p most long O w (l.drop i.1 ++ ([])) (encRL most long [.list l] x) i.2.1 w' i.2.2.1) (fun i => l.length - i.1) (0, O1, x1, w1) ⟨rfl, rfl, rfl, trivial⟩ ⟨rfl, Nat.zero_le _, h⟩ ?_)
 clear h
 rintro ⟨i21, O1, x1, _⟩ w1 ⟨rfl, hi, h⟩
 simp only at hi h ⊢
 refine W.sq (W.sq (W.rg (WL.mv rfl rfl (WL.mv rfl rfl (WL.len rfl (lS Tryz.underlying29) rfl (WL.bi rfl rfl (run_lss (c := decide (i21 < l.length)) (decide_eq_decide.2 Int.ofNat_lt.symm)) rfl (WL.nx (W.cond rfl (fun ht => W.skip fun a ha => tN ?_) (fun hf => W.exit fun a ha => tE (tE (eH ?_)))))))))))
 · have hil : i21 < l.length := of_decide_eq_true ht
   obtain ⟨t22, hti22⟩ : ∃ t, l[i21]? = some t := ⟨_, List.getElem?_eq_getElem hil⟩
   obtain ⟨b22, o22, ds22, hix22, hS22, hlt22, hA22, hr22⟩ := hget i21 t22 hti22
   have hw22 := T.wt_mem (List.mem_of_getElem? hti22)
   replace h := h.pop hti22
   refine W.run ha (W.sq (W.bk ?_))
   have hone := Rep.one _ _ _ hr22
   obtain ⟨wb, hstb, ab, fb⟩ := put_new (w := w1) (z := .agg Z.toArray) (zs := Z) iy144 rfl hzl hone.1 hone.2
   refine W.sq (W.rg (WL.mv rfl rfl (WL.mv rfl rfl (WL.ix rfl rfl (hix22 _ Tryz.underlying29 iy144 rfl) rfl (WL.ld rfl (lR (f := .st .global) iy144 hr22 (h.st.at_ hS22 hlt22 hA22)) rfl (WL.alloc (hz _) rfl (WL.so rfl rfl hstb ?_)))))))
   have hx1 := h.st.rebase fb (Nat.le_refl _) ab.lt
   have hrb := hr22.plus h.st fb w1.heap.size
   have hub := h.hd
   generalize w1.heap.size = bx at ab hx1 hrb ⊢
   have hAx := ab.all
   have hltx := ab.lt
   have hSx : plus w0 S bx bx := .inr rfl
   obtain ⟨fl23, rfl, hlen23, hF23⟩ := hrb.st_inv
   obtain ⟨a23_0, fl23, rfl, r23_0, hF23⟩ := hF23.cons_inv
   obtain ⟨a23_1, fl23, rfl, r23_1, hF23⟩ := hF23.cons_inv
   obtain ⟨a23_2, fl23, rfl, r23_2, hF23⟩ := hF23.cons_inv
   obtain ⟨a23_3, fl23, rfl, r23_3, hF23⟩ := hF23.cons_inv
   obtain ⟨a23_4, fl23, rfl, r23_4, hF23⟩ := hF23.cons_inv
   obtain ⟨a23_5, fl23, rfl, r23_5, hF23⟩ := hF23.cons_inv
   obtain ⟨a23_6, fl23, rfl, r23_6, hF23⟩ := hF23.cons_inv
   obtain ⟨a23_7, fl23, rfl, r23_7, hF23⟩ := hF23.cons_inv
   obtain ⟨a23_8, fl23, rfl, r23_8, hF23⟩ := hF23.cons_inv
   obtain ⟨a23_9, fl23, rfl, r23_9, hF23⟩ := hF23.cons_inv
   obtain rfl := hF23.nil_inv
   simp only [Nat.zero_add, Nat.reduceAdd, Ty.size, SN.size] at r23_0 r23_1 r23_2 r23_3 r23_4 r23_5 r23_6 r23_7 r23_8 r23_9
   refine WL.nx (W.weak [(0, ptr p), (1, .slice g l.length cap), (4, .int .i64 (i21 : Int)), (5, ptr bx)] ⟨rfl, rfl, rfl, rfl, trivial⟩ ?_)
   obtain ⟨x, hxx⟩ : ∃ x, x = x1 := ⟨_, rfl⟩
   obtain ⟨Ob, hOb⟩ : ∃ Ob, Ob = O1 := ⟨_, rfl⟩
   subst hxx hOb
   have h0 := h
   clear h
   have h := XS.start (r := [a23_0, a23_1, a23_2, a23_3, a23_4, a23_5, a23_6, a23_7, a23_8, a23_9]) hx1 (use_flat hub)
   refine W.sq (W.rg (WL.mv rfl rfl (WL.fa rfl (fld144_0 _ _ _) rfl (WL.ld rfl (lR (f := .str) iy9 r23_0 (h.st.at_ hSx hltx (hAx.sub 0 1))) rfl (WL.cl Tryz.call136 rfl rfl (h.call x136 r23_0) ?_ nop)))))
   rintro _ w1 ⟨rfl, O1, x1, h⟩
   refine WL.nx ?_
   refine W.sq (W.rg (WL.mv rfl rfl (WL.fa rfl (fld144_1 _ _ _) rfl (WL.ld rfl (lR (f := .bool) iy4 r23_1 (h.st.at_ hSx hltx (hAx.sub 1 1))) rfl (WL.cl Tryz.call138 rfl rfl (h.call x138 r23_1) ?_ nop)))))
   rintro _ w1 ⟨rfl, O1, x1, h⟩
   refine WL.nx ?_
   refine W.sq (W.rg (WL.mv rfl rfl (WL.fa rfl (fld144_2 _ _ _) rfl (WL.ld rfl (lR (f := .st .type) iy63 r23_2 (h.st.at_ hSx hltx (hAx.sub 2 5))) rfl (WL.cl Tryz.call201 rfl rfl (h.call x201 r23_2) ?_ nop)))))
   rintro _ w1 ⟨rfl, O1, x1, h⟩
   refine WL.nx ?_
   refine W.sq (W.rg (WL.mv rfl rfl (WL.fa rfl (fld144_3 _ _ _) rfl (WL.ld rfl (lR (f := .bool) iy4 r23_3 (h.st.at_ hSx hltx (hAx.sub 7 1))) rfl (WL.cl Tryz.call138 rfl rfl (h.call x138 r23_3) ?_ nop)))))
   rintro _ w1 ⟨rfl, O1, x1, h⟩
   refine WL.nx ?_
   refine W.sq (W.rg (WL.mv rfl rfl (WL.fa rfl (fld144_4 _ _ _) rfl (WL.ld rfl (lR (f := .st .expr) iy66 r23_4 (h.st.at_ hSx hltx (hAx.sub 8 16))) rfl (WL.cl Tryz.call144 rfl rfl (h.call xExpr r23_4) ?_ nop)))))
   rintro _ w1 ⟨rfl, O1, x1, h⟩
   refine WL.nx ?_
   refine W.sq (W.rg (WL.mv rfl rfl (WL.fa rfl (fld144_5 _ _ _) rfl (WL.ld rfl (lR (f := .list (.st .instr)) iy56 r23_5 (h.st.at_ hSx hltx (hAx.sub 24 1))) rfl (WL.cl Tryz.call200 rfl rfl (h.call xInstrs r23_5) ?_ nop)))))
   rintro _ w1 ⟨rfl, O1, x1, h⟩
   refine WL.nx ?_
   refine W.sq (W.rg (WL.mv rfl rfl (WL.fa rfl (fld144_6 _ _ _) rfl (WL.ld rfl (lR (f := .str) iy9 r23_6 (h.st.at_ hSx hltx (hAx.sub 25 1))) rfl (WL.cl Tryz.call136 rfl rfl (h.call x136 r23_6) ?_ nop)))))
   rintro _ w1 ⟨rfl, O1, x1, h⟩
   refine WL.nx ?_
   refine W.sq (W.rg (WL.mv rfl rfl (WL.fa rfl (fld144_7 _ _ _) rfl (WL.ld rfl (lR (f := .int) iy3 r23_7 (h.st.at_ hSx hltx (hAx.sub 26 1))) rfl (WL.cl Tryz.call139 rfl rfl (h.call x139 r23_7) ?_ nop)))))
   rintro _ w1 ⟨rfl, O1, x1, h⟩
   refine WL.nx ?_
   refine W.sq (W.rg (WL.mv rfl rfl (WL.fa rfl (fld144_8 _ _ _) rfl (WL.ld rfl (lR (f := .int) iy3 r23_8 (h.st.at_ hSx hltx (hAx.sub 27 1))) rfl (WL.cl Tryz.call139 rfl rfl (h.call x139 r23_8) ?_ nop)))))
   rintro _ w1 ⟨rfl, O1, x1, h⟩
   refine WL.nx ?_
   refine W.rg (WL.mv rfl rfl (WL.fa rfl (fld144_9 _ _ _) rfl (WL.ld rfl (lR (f := .int) iy3 r23_9 (h.st.at_ hSx hltx (hAx.sub 28 1))) rfl (WL.cl Tryz.call139 rfl rfl (h.call x139 r23_9) ?_ nop))))
   rintro _ w1 ⟨rfl, O1, x1, h⟩
   refine WL.nil fun a ha => bN (tN ?_)
   obtain ⟨ff, hs⟩ := h.fin
   have h := h0.next ((fb.drop (fun _ h => h.elim)).trans ff) (by simp only [encR, SN.deep]; exact h0.st.unbase fb hs)
   generalize encR most long _ x = x1 at h
   refine W.run ha (W.rg (WL.mv rfl rfl (WL.bi rfl rfl rfl rfl (WL.an rfl rfl (WL.nil fun a ha => tN ?_)))))
   exact ⟨(i21 + 1, O1, x1, w1), ha.weak ⟨rfl, rfl, congrArg some (inc_i64 (lt_len hil hml)), trivial⟩, ⟨rfl, hil, h⟩, Nat.sub_lt_sub_left hil (Nat.lt_succ_self i21)⟩
 · have hend : i21 = l.length := Nat.le_antisymm hi (Nat.le_of_not_lt (of_decide_eq_false hf))
   replace h := h.popped hend
   obtain ⟨ff, hs⟩ := h.fin
   simp only [encRL] at hs
   exact post_end0 rfl ha ⟨rfl, O1, ff, hs⟩
end Go.Sx
namespace Go.Sx
open Go.Proofs
set_option maxHeartbeats 4000000 in
theorem x88 : ∀ (N : Nat) (t : T), t.wt ≤ N → XEnc 88 (.st .sheet) t := by
 intro N
 induction N using Nat.strongRecOn with
 | _ N IH =>
 intro t hN
 intro w0 S p most long x O w cs hr hx hu
 refine cW 395 Tryz.func88 rfl rfl rfl ?_
 refine W.sq (W.rg (WL.box (v := .agg cs.toArray) rfl rfl ?_))
 have fb : Fr (fun _ => False) w (fun _ => False) (w.alloc (.cells cs.toArray 36)) := Fr.alloc _ _ _
 have ab : Blk (w.alloc (.cells cs.toArray 36)) w.heap.size cs 36 := Blk.alloc_new
 have hx1 := hx.rebase fb (Nat.le_refl _) ab.lt
 have hr1 := hr.plus hx fb w.heap.size
 show WL _ _ _ _ _ _ _ (w.alloc (.cells cs.toArray 36))
 generalize w.alloc (.cells cs.toArray 36) = wb at fb ab hx1 hr1 ⊢
 generalize w.heap.size = bx at ab hx1 hr1 ⊢
 have hA := ab.all
 have hlt := ab.lt
 have hS : plus w0 S bx bx := .inr rfl
 obtain ⟨fl1, rfl, hlen1, hF1⟩ := hr1.st_inv
 obtain ⟨a1_0, fl1, rfl, r1_0, hF1⟩ := hF1.cons_inv
 obtain ⟨a1_1, fl1, rfl, r1_1, hF1⟩ := hF1.cons_inv
 obtain ⟨a1_2, fl1, rfl, r1_2, hF1⟩ := hF1.cons_inv
 obtain ⟨a1_3, fl1, rfl, r1_3, hF1⟩ := hF1.cons_inv
 obtain ⟨a1_4, fl1, rfl, r1_4, hF1⟩ := hF1.cons_inv
 obtain ⟨a1_5, fl1, rfl, r1_5, hF1⟩ := hF1.cons_inv
 obtain ⟨a1_6, fl1, rfl, r1_6, hF1⟩ := hF1.cons_inv
 obtain ⟨a1_7, fl1, rfl, r1_7, hF1⟩ := hF1.cons_inv
 obtain ⟨a1_8, fl1, rfl, r1_8, hF1⟩ := hF1.cons_inv
 obtain ⟨a1_9, fl1, rfl, r1_9, hF1⟩ := hF1.cons_inv
 obtain rfl := hF1.nil_inv
 simp only [Nat.zero_add, Nat.reduceAdd, Ty.size] at r1_0 r1_1 r1_2 r1_3 r1_4 r1_5 r1_6 r1_7 r1_8 r1_9
 obtain ⟨l2, rfl⟩ := r1_1.is_list
 obtain ⟨g2, cap2, hv2, hml2, hget2⟩ := list_at r1_1
 obtain ⟨l3, rfl⟩ := r1_5.is_list
 obtain ⟨g3, cap3, hv3, hml3, hget3⟩ := list_at r1_5
 obtain ⟨l4, rfl⟩ := r1_6.is_list
 obtain ⟨g4, cap4, hv4, hml4, hget4⟩ := list_at r1_6
 obtain ⟨l5, rfl⟩ := r1_7.is_list
 obtain ⟨g5, cap5, hv5, hml5, hget5⟩ := list_at r1_7
 obtain ⟨l6, rfl⟩ := r1_8.is_list
 obtain ⟨g6, cap6, hv6, hml6, hget6⟩ := list_at r1_8
 obtain ⟨l7, rfl⟩ := r1_9.is_list
 obtain ⟨g7, cap7, hv7, hml7, hget7⟩ := list_at r1_9
 replace hu := use_agg hu
 refine WL.kp [(0, ptr p), (3, ptr bx)] ⟨rfl, rfl, trivial⟩ ?_
 refine W.sq (W.sq (W.rg (WL.mv rfl rfl (WL.cl Tryz.call135 rfl rfl (c135 hx1 (use_one hu)) ?_ nop))))
 rintro _ w1 ⟨rfl, O1, fd, hx2⟩
 refine WL.nx (W.cond rfl (fun ht => ?_) (fun hf => W.skip fun a ha => tN ?_))
 · have hC : ¬ (x.2 = true ∨ most < x.1.nest + 1 ∨ long < x.1.b.length) := by simpa only [Bool.not_eq_true', decide_eq_false_iff_not] using ht
   rw [decide_eq_false hC] at hx2
   have h := XS.start (r := [a1_0, (.list l2), a1_2, a1_3, a1_4, (.list l3), (.list l4), (.list l5), (.list l6), (.list l7)]) hx2 (use_down hu)
   obtain ⟨Od, hOd⟩ : ∃ Od, Od = O1 := ⟨_, rfl⟩
   obtain ⟨wd, hwd⟩ : ∃ wd, wd = w1 := ⟨_, rfl⟩
   subst hOd hwd
   refine W.weak [(0, ptr p), (3, ptr bx)] ⟨rfl, rfl, trivial⟩ ?_
   refine W.sq (W.rg (WL.mv rfl rfl (WL.fa rfl (fld36_0 _ _ _) rfl (WL.ld rfl (lR (f := .str) iy9 r1_0 (h.st.at_ hS hlt (hA.sub 0 1))) rfl (WL.cl Tryz.call136 rfl rfl (h.call x136 r1_0) ?_ nop)))))
   rintro _ w1 ⟨rfl, O1, x1, h⟩
   refine WL.nx ?_
   refine W.sq (W.rg (WL.mv rfl rfl (WL.fa rfl (fld36_1 _ _ _) rfl (WL.ld rfl (load_list hv2 iy26 r1_1 (h.st.at_ hS hlt (hA.sub 1 1))) rfl (WL.len rfl (lS Tryz.underlying26) rfl (WL.cl Tryz.call137 rfl rfl h.len ?_ nop))))))
   rintro _ w1 ⟨rfl, O1, x1, h⟩
   refine WL.nx ?_
   refine W.sq (W.sq (W.rg (WL.an rfl rfl (WL.nx ?_))))
   refine W.bk (W.loop (ι := Nat × (Nat → Prop) × XW × World) (fun i => [(0, ptr p), (3, ptr bx), (4, .int .i64 (i.1 : Int))])
    (fun i w' => w' = i.2.2.2 ∧ i.1 ≤ l2.length ∧ XS wb (plus w0 S bx) p most long Od wd (l2.drop i.1 ++ (a1_2 :: a1_3 :: a1_4 :: (.list l3) :: (.list l4) :: (.list l5) :: (.list l6) :: (.list l7) :: [])) (encRL most long [a1_0, (.list l2), a1_2, a1_3, a1_4, (.list l3), (.list l4), (.list l5), (.list l6), (.list l7)] ({ x.1 with nest := x.1.nest + 1 }, false)) i.2.1 w' i.2.2.1) (fun i => l2.length - i.1) (0, O1, x1, w1) ⟨rfl, rfl, rfl, trivial⟩ ⟨rfl, Nat.zero_le _, h⟩ ?_)
   clear h
   rintro ⟨i8, O1, x1, _⟩ w1 ⟨rfl, hi, h⟩
   simp only at hi h ⊢
   refine W.sq (W.sq (W.rg (WL.mv rfl rfl (WL.fa rfl (fld36_1 _ _ _) rfl (WL.ld rfl (load_list hv2 iy26 r1_1 (h.st.at_ hS hlt (hA.sub 1 1))) rfl (WL.len rfl (lS Tryz.underlying26) rfl (WL.bi rfl rfl (run_lss (c := decide (i8 < l2.length)) (decide_eq_decide.2 Int.ofNat_lt.symm)) rfl (WL.nx (W.cond rfl (fun ht => W.skip fun a ha => tN ?_) (fun hf => W.exit fun a ha => tE (tE (eH (tN ?_)))))))))))))
   · have hil : i8 < l2.length := of_decide_eq_true ht
     obtain ⟨t9, hti9⟩ : ∃ t, l2[i8]? = some t := ⟨_, List.getElem?_eq_getElem hil⟩
     obtain ⟨b9, o9, ds9, hix9, hS9, hlt9, hA9, hr9⟩ := hget2 i8 t9 hti9
     have hw9 := T.wt_mem (List.mem_of_getElem? hti9)
     replace h := h.pop hti9
     refine W.run ha (W.sq (W.bk ?_))
     obtain ⟨fl10, rfl, hlen10, hF10⟩ := hr9.st_inv
     obtain ⟨a10_0, fl10, rfl, r10_0, hF10⟩ := hF10.cons_inv
     obtain ⟨a10_1, fl10, rfl, r10_1, hF10⟩ := hF10.cons_inv
     obtain ⟨a10_2, fl10, rfl, r10_2, hF10⟩ := hF10.cons_inv
     obtain ⟨a10_3, fl10, rfl, r10_3, hF10⟩ := hF10.cons_inv
     obtain rfl := hF10.nil_inv
     simp only [Nat.zero_add, Nat.reduceAdd, Ty.size] at r10_0 r10_1 r10_2 r10_3
     replace h := h.flat rfl
     rcases r10_1.ptr_inv with ⟨rfl, hp11⟩ | ⟨u11, bu11, ou11, du11, rfl, hp11, hSu11, hltu11, hAu11, hlu11, hru11⟩
     · refine W.sq (W.rg (WL.mv rfl rfl (WL.fa rfl (fld36_1 _ _ _) rfl (WL.ld rfl (load_list hv2 iy26 r1_1 (h.st.at_ hS hlt (hA.sub 1 1))) rfl (WL.mv rfl rfl (WL.ix rfl rfl (hix9 _ Tryz.underlying26 iy48 rfl) rfl (WL.fa rfl (fld48_0 _ _ _) rfl (WL.ld rfl (lR (f := .str) iy9 r10_0 (h.st.at_ hS9 hlt9 (hA9.sub 0 1))) rfl (WL.cl Tryz.call136 rfl rfl (h.call x136 r10_0) ?_ nop)))))))))
       rintro _ w1 ⟨rfl, O1, x1, h⟩
       refine WL.nx ?_
       refine W.sq (W.rg (WL.mv rfl rfl (WL.fa rfl (fld36_1 _ _ _) rfl (WL.ld rfl (load_list hv2 iy26 r1_1 (h.st.at_ hS hlt (hA.sub 1 1))) rfl (WL.mv rfl rfl (WL.ix rfl rfl (hix9 _ Tryz.underlying26 iy48 rfl) rfl (WL.fa rfl (fld48_1 _ _ _) rfl (WL.ld rfl (load1 iy46 (at1 hp11 (h.st.at_ hS9 hlt9 (hA9.sub 1 1)))) rfl (WL.binAny rfl rfl guard_ptr neq_nil_none rfl (WL.cl Tryz.call138 rfl rfl h.isNil ?_ nop))))))))))
       rintro _ w1 ⟨rfl, O1, x1, h⟩
       refine WL.nx ?_
       refine W.sq (W.sq (W.rg (WL.fa rfl (fld36_1 _ _ _) rfl (WL.ld rfl (load_list hv2 iy26 r1_1 (h.st.at_ hS hlt (hA.sub 1 1))) rfl (WL.mv rfl rfl (WL.ix rfl rfl (hix9 _ Tryz.underlying26 iy48 rfl) rfl (WL.fa rfl (fld48_1 _ _ _) rfl (WL.ld rfl (load1 iy46 (at1 hp11 (h.st.at_ hS9 hlt9 (hA9.sub 1 1)))) rfl (WL.binAny rfl rfl guard_ptr neq_nil_none rfl (WL.nx (W.cond_false rfl (W.skip fun a ha => tN ?_))))))))))))
       refine W.run ha ?_
       refine W.sq (W.rg (WL.mv rfl rfl (WL.fa rfl (fld36_1 _ _ _) rfl (WL.ld rfl (load_list hv2 iy26 r1_1 (h.st.at_ hS hlt (hA.sub 1 1))) rfl (WL.mv rfl rfl (WL.ix rfl rfl (hix9 _ Tryz.underlying26 iy48 rfl) rfl (WL.fa rfl (fld48_2 _ _ _) rfl (WL.ld rfl (lR (f := .int) iy3 r10_2 (h.st.at_ hS9 hlt9 (hA9.sub 2 1))) rfl (WL.cl Tryz.call139 rfl rfl (h.call x139 r10_2) ?_ nop)))))))))
       rintro _ w1 ⟨rfl, O1, x1, h⟩
       refine WL.nx ?_
       refine W.rg (WL.mv rfl rfl (WL.fa rfl (fld36_1 _ _ _) rfl (WL.ld rfl (load_list hv2 iy26 r1_1 (h.st.at_ hS hlt (hA.sub 1 1))) rfl (WL.mv rfl rfl (WL.ix rfl rfl (hix9 _ Tryz.underlying26 iy48 rfl) rfl (WL.fa rfl (fld48_3 _ _ _) rfl (WL.ld rfl (lR (f := .int) iy3 r10_3 (h.st.at_ hS9 hlt9 (hA9.sub 3 1))) rfl (WL.cl Tryz.call139 rfl rfl (h.call x139 r10_3) ?_ nop))))))))
       rintro _ w1 ⟨rfl, O1, x1, h⟩
       refine WL.nil fun a ha => bN (tN ?_)
       refine W.run ha (W.rg (WL.mv rfl rfl (WL.bi rfl rfl rfl rfl (WL.an rfl rfl (WL.nil fun a ha => tN ?_)))))
       exact ⟨(i8 + 1, O1, x1, w1), ha.weak ⟨rfl, rfl, congrArg some (inc_i64 (lt_len hil hml2)), trivial⟩, ⟨rfl, hil, h⟩, Nat.sub_lt_sub_left hil (Nat.lt_succ_self i8)⟩
     · refine W.sq (W.rg (WL.mv rfl rfl (WL.fa rfl (fld36_1 _ _ _) rfl (WL.ld rfl (load_list hv2 iy26 r1_1 (h.st.at_ hS hlt (hA.sub 1 1))) rfl (WL.mv rfl rfl (WL.ix rfl rfl (hix9 _ Tryz.underlying26 iy48 rfl) rfl (WL.fa rfl (fld48_0 _ _ _) rfl (WL.ld rfl (lR (f := .str) iy9 r10_0 (h.st.at_ hS9 hlt9 (hA9.sub 0 1))) rfl (WL.cl Tryz.call136 rfl rfl (h.call x136 r10_0) ?_ nop)))))))))
       rintro _ w1 ⟨rfl, O1, x1, h⟩
       refine WL.nx ?_
       refine W.sq (W.rg (WL.mv rfl rfl (WL.fa rfl (fld36_1 _ _ _) rfl (WL.ld rfl (load_list hv2 iy26 r1_1 (h.st.at_ hS hlt (hA.sub 1 1))) rfl (WL.mv rfl rfl (WL.ix rfl rfl (hix9 _ Tryz.underlying26 iy48 rfl) rfl (WL.fa rfl (fld48_1 _ _ _) rfl (WL.ld rfl (load1 iy46 (at1 hp11 (h.st.at_ hS9 hlt9 (hA9.sub 1 1)))) rfl (WL.binAny rfl rfl guard_ptr neq_nil_some rfl (WL.cl Tryz.call138 rfl rfl h.isPtr ?_ nop))))))))))
       rintro _ w1 ⟨rfl, O1, x1, h⟩
       refine WL.nx ?_
       refine W.sq (W.sq (W.rg (WL.fa rfl (fld36_1 _ _ _) rfl (WL.ld rfl (load_list hv2 iy26 r1_1 (h.st.at_ hS hlt (hA.sub 1 1))) rfl (WL.mv rfl rfl (WL.ix rfl rfl (hix9 _ Tryz.underlying26 iy48 rfl) rfl (WL.fa rfl (fld48_1 _ _ _) rfl (WL.ld rfl (load1 iy46 (at1 hp11 (h.st.at_ hS9 hlt9 (hA9.sub 1 1)))) rfl (WL.binAny rfl rfl guard_ptr neq_nil_some rfl (WL.nx (W.ct rfl ?_)))))))))))
       refine W.rg (WL.mv rfl rfl (WL.fa rfl (fld36_1 _ _ _) rfl (WL.ld rfl (load_list hv2 iy26 r1_1 (h.st.at_ hS hlt (hA.sub 1 1))) rfl (WL.mv rfl rfl (WL.ix rfl rfl (hix9 _ Tryz.underlying26 iy48 rfl) rfl (WL.fa rfl (fld48_1 _ _ _) rfl (WL.ld rfl (load1 iy46 (at1 hp11 (h.st.at_ hS9 hlt9 (hA9.sub 1 1)))) rfl (WL.nc rfl rfl (WL.ld rfl (lR (f := .st .sheet) iy36 hru11 (h.st.at_ hSu11 hltu11 hAu11)) rfl (WL.cl Tryz.call88 rfl rfl (h.call (IH _ (ptr_lt (Nat.lt_trans (fld_lt (by simp) hw9 (Nat.le_refl _)) (agg_lt (by simp) hN))) _ (Nat.le_refl _)) hru11) ?_ nop))))))))))
       rintro _ w1 ⟨rfl, O1, x1, h⟩
       refine WL.nil fun a ha => tN (W.run ha ?_)
       refine W.sq (W.rg (WL.mv rfl rfl (WL.fa rfl (fld36_1 _ _ _) rfl (WL.ld rfl (load_list hv2 iy26 r1_1 (h.st.at_ hS hlt (hA.sub 1 1))) rfl (WL.mv rfl rfl (WL.ix rfl rfl (hix9 _ Tryz.underlying26 iy48 rfl) rfl (WL.fa rfl (fld48_2 _ _ _) rfl (WL.ld rfl (lR (f := .int) iy3 r10_2 (h.st.at_ hS9 hlt9 (hA9.sub 2 1))) rfl (WL.cl Tryz.call139 rfl rfl (h.call x139 r10_2) ?_ nop)))))))))
       rintro _ w1 ⟨rfl, O1, x1, h⟩
       refine WL.nx ?_
       refine W.rg (WL.mv rfl rfl (WL.fa rfl (fld36_1 _ _ _) rfl (WL.ld rfl (load_list hv2 iy26 r1_1 (h.st.at_ hS hlt (hA.sub 1 1))) rfl (WL.mv rfl rfl (WL.ix rfl rfl (hix9 _ Tryz.underlying26 iy48 rfl) rfl (WL.fa rfl (fld48_3 _ _ _) rfl (WL.ld rfl (lR (f := .int) iy3 r10_3 (h.st.at_ hS9 hlt9 (hA9.sub 3 1))) rfl (WL.cl Tryz.call139 rfl rfl (h.call x139 r10_3) ?_ nop))))))))
       rintro _ w1 ⟨rfl, O1, x1, h⟩
       refine WL.nil fun a ha => bN (tN ?_)
       refine W.run ha (W.rg (WL.mv rfl rfl (WL.bi rfl rfl rfl rfl (WL.an rfl rfl (WL.nil fun a ha => tN ?_)))))
       exact ⟨(i8 + 1, O1, x1, w1), ha.weak ⟨rfl, rfl, congrArg some (inc_i64 (lt_len hil hml2)), trivial⟩, ⟨rfl, hil, h⟩, Nat.sub_lt_sub_left hil (Nat.lt_succ_self i8)⟩
   · have hend : i8 = l2.length := Nat.le_antisymm hi (Nat.le_of_not_lt (of_decide_eq_false hf))
     replace h := h.popped hend
     refine W.run ha ?_
     refine W.sq (W.rg (WL.mv rfl rfl (WL.fa rfl (fld36_2 _ _ _) rfl (WL.ld rfl (lR (f := .list (.st .template)) iy27 r1_2 (h.st.at_ hS hlt (hA.sub 2 1))) rfl (WL.cl Tryz.call140 rfl rfl (h.call x140 r1_2) ?_ nop)))))
     rintro _ w1 ⟨rfl, O1, x1, h⟩
     refine WL.nx ?_
     refine W.sq (W.rg (WL.mv rfl rfl (WL.fa rfl (fld36_3 _ _ _) rfl (WL.ld rfl (lR (f := .list (.st .dfn)) iy28 r1_3 (h.st.at_ hS hlt (hA.sub 3 1))) rfl (WL.cl Tryz.call141 rfl rfl (h.call x141 r1_3) ?_ nop)))))
     rintro _ w1 ⟨rfl, O1, x1, h⟩
     refine WL.nx ?_
     refine W.sq (W.rg (WL.mv rfl rfl (WL.fa rfl (fld36_4 _ _ _) rfl (WL.ld rfl (lR (f := .list (.st .global)) iy29 r1_4 (h.st.at_ hS hlt (hA.sub 4 1))) rfl (WL.cl Tryz.call142 rfl rfl (h.call x142 r1_4) ?_ nop)))))
     rintro _ w1 ⟨rfl, O1, x1, h⟩
     refine WL.nx ?_
     refine W.sq (W.rg (WL.mv rfl rfl (WL.fa rfl (fld36_5 _ _ _) rfl (WL.ld rfl (load_list hv3 iy30 r1_5 (h.st.at_ hS hlt (hA.sub 5 1))) rfl (WL.len rfl (lS Tryz.underlying30) rfl (WL.cl Tryz.call137 rfl rfl h.len ?_ nop))))))
     rintro _ w1 ⟨rfl, O1, x1, h⟩
     refine WL.nx ?_
     refine W.sq (W.sq (W.rg (WL.an rfl rfl (WL.nx ?_))))
     refine W.bk (W.loop (ι := Nat × (Nat → Prop) × XW × World) (fun i => [(0, ptr p), (3, ptr bx), (5, .int .i64 (i.1 : Int))])
      (fun i w' => w' = i.2.2.2 ∧ i.1 ≤ l3.length ∧ XS wb (plus w0 S bx) p most long Od wd (l3.drop i.1 ++ ((.list l4) :: (.list l5) :: (.list l6) :: (.list l7) :: [])) (encRL most long [a1_0, (.list l2), a1_2, a1_3, a1_4, (.list l3), (.list l4), (.list l5), (.list l6), (.list l7)] ({ x.1 with nest := x.1.nest + 1 }, false)) i.2.1 w' i.2.2.1) (fun i => l3.length - i.1) (0, O1, x1, w1) ⟨rfl, rfl, rfl, trivial⟩ ⟨rfl, Nat.zero_le _, h⟩ ?_)
     clear h
     rintro ⟨i12, O1, x1, _⟩ w1 ⟨rfl, hi, h⟩
     simp only at hi h ⊢
     refine W.sq (W.sq (W.rg (WL.mv rfl rfl (WL.fa rfl (fld36_5 _ _ _) rfl (WL.ld rfl (load_list hv3 iy30 r1_5 (h.st.at_ hS hlt (hA.sub 5 1))) rfl (WL.len rfl (lS Tryz.underlying30) rfl (WL.bi rfl rfl (run_lss (c := decide (i12 < l3.length)) (decide_eq_decide.2 Int.ofNat_lt.symm)) rfl (WL.nx (W.cond rfl (fun ht => W.skip fun a ha => tN ?_) (fun hf => W.exit fun a ha => tE (tE (eH (tN ?_)))))))))))))
     · have hil : i12 < l3.length := of_decide_eq_true ht
       obtain ⟨t13, hti13⟩ : ∃ t, l3[i12]? = some t := ⟨_, List.getElem?_eq_getElem hil⟩
       obtain ⟨b13, o13, ds13, hix13, hS13, hlt13, hA13, hr13⟩ := hget3 i12 t13 hti13
       have hw13 := T.wt_mem (List.mem_of_getElem? hti13)
       replace h := h.pop hti13
       refine W.run ha (W.sq (W.bk ?_))
       obtain ⟨fl14, rfl, hlen14, hF14⟩ := hr13.st_inv
       obtain ⟨a14_0, fl14, rfl, r14_0, hF14⟩ := hF14.cons_inv
       obtain ⟨a14_1, fl14, rfl, r14_1, hF14⟩ := hF14.cons_inv
       obtain ⟨a14_2, fl14, rfl, r14_2, hF14⟩ := hF14.cons_inv
       obtain rfl := hF14.nil_inv
       simp only [Nat.zero_add, Nat.reduceAdd, Ty.size, SN.size] at r14_0 r14_1 r14_2
       replace h := h.flat rfl
       refine W.sq (W.rg (WL.mv rfl rfl (WL.fa rfl (fld36_5 _ _ _) rfl (WL.ld rfl (load_list hv3 iy30 r1_5 (h.st.at_ hS hlt (hA.sub 5 1))) rfl (WL.mv rfl rfl (WL.ix rfl rfl (hix13 _ Tryz.underlying30 iy76 rfl) rfl (WL.fa rfl (fld76_0 _ _ _) rfl (WL.ld rfl (lR (f := .str) iy9 r14_0 (h.st.at_ hS13 hlt13 (hA13.sub 0 1))) rfl (WL.cl Tryz.call136 rfl rfl (h.call x136 r14_0) ?_ nop)))))))))
       rintro _ w1 ⟨rfl, O1, x1, h⟩
       refine WL.nx ?_
       refine W.sq (W.rg (WL.mv rfl rfl (WL.fa rfl (fld36_5 _ _ _) rfl (WL.ld rfl (load_list hv3 iy30 r1_5 (h.st.at_ hS hlt (hA.sub 5 1))) rfl (WL.mv rfl rfl (WL.ix rfl rfl (hix13 _ Tryz.underlying30 iy76 rfl) rfl (WL.fa rfl (fld76_1 _ _ _) rfl (WL.ld rfl (lR (f := .list (.st .expr)) iy64 r14_1 (h.st.at_ hS13 hlt13 (hA13.sub 1 1))) rfl (WL.cl Tryz.call143 rfl rfl (h.call xExprs r14_1) ?_ nop)))))))))
       rintro _ w1 ⟨rfl, O1, x1, h⟩
       refine WL.nx ?_
       refine W.rg (WL.mv rfl rfl (WL.fa rfl (fld36_5 _ _ _) rfl (WL.ld rfl (load_list hv3 iy30 r1_5 (h.st.at_ hS hlt (hA.sub 5 1))) rfl (WL.mv rfl rfl (WL.ix rfl rfl (hix13 _ Tryz.underlying30 iy76 rfl) rfl (WL.fa rfl (fld76_2 _ _ _) rfl (WL.ld rfl (lR (f := .st .expr) iy66 r14_2 (h.st.at_ hS13 hlt13 (hA13.sub 2 16))) rfl (WL.cl Tryz.call144 rfl rfl (h.call xExpr r14_2) ?_ nop))))))))
       rintro _ w1 ⟨rfl, O1, x1, h⟩
       refine WL.nil fun a ha => bN (tN ?_)
       refine W.run ha (W.rg (WL.mv rfl rfl (WL.bi rfl rfl rfl rfl (WL.an rfl rfl (WL.nil fun a ha => tN ?_)))))
       exact ⟨(i12 + 1, O1, x1, w1), ha.weak ⟨rfl, rfl, congrArg some (inc_i64 (lt_len hil hml3)), trivial⟩, ⟨rfl, hil, h⟩, Nat.sub_lt_sub_left hil (Nat.lt_succ_self i12)⟩
     · have hend : i12 = l3.length := Nat.le_antisymm hi (Nat.le_of_not_lt (of_decide_eq_false hf))
       replace h := h.popped hend
       refine W.run ha ?_
       refine W.sq (W.rg (WL.mv rfl rfl (WL.fa rfl (fld36_6 _ _ _) rfl (WL.ld rfl (load_list hv4 iy31 r1_6 (h.st.at_ hS hlt (hA.sub 6 1))) rfl (WL.len rfl (lS Tryz.underlying31) rfl (WL.cl Tryz.call137 rfl rfl h.len ?_ nop))))))
       rintro _ w1 ⟨rfl, O1, x1, h⟩
       refine WL.nx ?_
       refine W.sq (W.sq (W.rg (WL.an rfl rfl (WL.nx ?_))))
       refine W.bk (W.loop (ι := Nat × (Nat → Prop) × XW × World) (fun i => [(0, ptr p), (3, ptr bx), (6, .int .i64 (i.1 : Int))])
        (fun i w' => w' = i.2.2.2 ∧ i.1 ≤ l4.length ∧ XS wb (plus w0 S bx) p most long Od wd (l4.drop i.1 ++ ((.list l5) :: (.list l6) :: (.list l7) :: [])) (encRL most long [a1_0, (.list l2), a1_2, a1_3, a1_4, (.list l3), (.list l4), (.list l5), (.list l6), (.list l7)] ({ x.1 with nest := x.1.nest + 1 }, false)) i.2.1 w' i.2.2.1) (fun i => l4.length - i.1) (0, O1, x1, w1) ⟨rfl, rfl, rfl, trivial⟩ ⟨rfl, Nat.zero_le _, h⟩ ?_)
       clear h
       rintro ⟨i15, O1, x1, _⟩ w1 ⟨rfl, hi, h⟩
       simp only at hi h ⊢
       refine W.sq (W.sq (W.rg (WL.mv rfl rfl (WL.fa rfl (fld36_6 _ _ _) rfl (WL.ld rfl (load_list hv4 iy31 r1_6 (h.st.at_ hS hlt (hA.sub 6 1))) rfl (WL.len rfl (lS Tryz.underlying31) rfl (WL.bi rfl rfl (run_lss (c := decide (i15 < l4.length)) (decide_eq_decide.2 Int.ofNat_lt.symm)) rfl (WL.nx (W.cond rfl (fun ht => W.skip fun a ha => tN ?_) (fun hf => W.exit fun a ha => tE (tE (eH (tN ?_)))))))))))))
       · have hil : i15 < l4.length := of_decide_eq_true ht
         obtain ⟨t16, hti16⟩ : ∃ t, l4[i15]? = some t := ⟨_, List.getElem?_eq_getElem hil⟩
         obtain ⟨b16, o16, ds16, hix16, hS16, hlt16, hA16, hr16⟩ := hget4 i15 t16 hti16
         have hw16 := T.wt_mem (List.mem_of_getElem? hti16)
         replace h := h.pop hti16
         refine W.run ha (W.sq (W.bk ?_))
         obtain ⟨fl17, rfl, hlen17, hF17⟩ := hr16.st_inv
         obtain ⟨a17_0, fl17, rfl, r17_0, hF17⟩ := hF17.cons_inv
         obtain ⟨a17_1, fl17, rfl, r17_1, hF17⟩ := hF17.cons_inv
         obtain ⟨a17_2, fl17, rfl, r17_2, hF17⟩ := hF17.cons_inv
         obtain rfl := hF17.nil_inv
         simp only [Nat.zero_add, Nat.reduceAdd, Ty.size, SN.size] at r17_0 r17_1 r17_2
         obtain ⟨l18, rfl⟩ := r17_2.is_list
         obtain ⟨g18, cap18, hv18, hml18, hget18⟩ := list_at r17_2
         replace h := h.flat rfl
         refine W.sq (W.rg (WL.mv rfl rfl (WL.fa rfl (fld36_6 _ _ _) rfl (WL.ld rfl (load_list hv4 iy31 r1_6 (h.st.at_ hS hlt (hA.sub 6 1))) rfl (WL.mv rfl rfl (WL.ix rfl rfl (hix16 _ Tryz.underlying31 iy151 rfl) rfl (WL.fa rfl (fld151_0 _ _ _) rfl (WL.ld rfl (lR (f := .str) iy9 r17_0 (h.st.at_ hS16 hlt16 (hA16.sub 0 1))) rfl (WL.cl Tryz.call136 rfl rfl (h.call x136 r17_0) ?_ nop)))))))))
         rintro _ w1 ⟨rfl, O1, x1, h⟩
         refine WL.nx ?_
         refine W.sq (W.rg (WL.mv rfl rfl (WL.fa rfl (fld36_6 _ _ _) rfl (WL.ld rfl (load_list hv4 iy31 r1_6 (h.st.at_ hS hlt (hA.sub 6 1))) rfl (WL.mv rfl rfl (WL.ix rfl rfl (hix16 _ Tryz.underlying31 iy151 rfl) rfl (WL.fa rfl (fld151_1 _ _ _) rfl (WL.ld rfl (lR (f := .st .expr) iy66 r17_1 (h.st.at_ hS16 hlt16 (hA16.sub 1 16))) rfl (WL.cl Tryz.call144 rfl rfl (h.call xExpr r17_1) ?_ nop)))))))))
         rintro _ w1 ⟨rfl, O1, x1, h⟩
         refine WL.nx ?_
         refine W.sq (W.rg (WL.mv rfl rfl (WL.fa rfl (fld36_6 _ _ _) rfl (WL.ld rfl (load_list hv4 iy31 r1_6 (h.st.at_ hS hlt (hA.sub 6 1))) rfl (WL.mv rfl rfl (WL.ix rfl rfl (hix16 _ Tryz.underlying31 iy151 rfl) rfl (WL.fa rfl (fld151_2 _ _ _) rfl (WL.ld rfl (load_list hv18 iy149 r17_2 (h.st.at_ hS16 hlt16 (hA16.sub 17 1))) rfl (WL.len rfl (lS Tryz.underlying149) rfl (WL.cl Tryz.call137 rfl rfl h.len ?_ nop))))))))))
         rintro _ w1 ⟨rfl, O1, x1, h⟩
         refine WL.nx ?_
         refine W.sq (W.rg (WL.an rfl rfl (WL.nx ?_)))
         refine W.bk (W.loop (ι := Nat × (Nat → Prop) × XW × World) (fun i => [(0, ptr p), (3, ptr bx), (6, .int .i64 (i15 : Int)), (7, .int .i64 (i.1 : Int))])
          (fun i w' => w' = i.2.2.2 ∧ i.1 ≤ l18.length ∧ XS wb (plus w0 S bx) p most long Od wd (l18.drop i.1 ++ ((l4.drop (i15 + 1) ++ ((.list l5) :: (.list l6) :: (.list l7) :: [])))) (encRL most long [a1_0, (.list l2), a1_2, a1_3, a1_4, (.list l3), (.list l4), (.list l5), (.list l6), (.list l7)] ({ x.1 with nest := x.1.nest + 1 }, false)) i.2.1 w' i.2.2.1) (fun i => l18.length - i.1) (0, O1, x1, w1) ⟨rfl, rfl, rfl, rfl, trivial⟩ ⟨rfl, Nat.zero_le _, h⟩ ?_)
         clear h
         rintro ⟨i19, O1, x1, _⟩ w1 ⟨rfl, hi, h⟩
         simp only at hi h ⊢
         refine W.sq (W.sq (W.rg (WL.mv rfl rfl (WL.fa rfl (fld36_6 _ _ _) rfl (WL.ld rfl (load_list hv4 iy31 r1_6 (h.st.at_ hS hlt (hA.sub 6 1))) rfl (WL.mv rfl rfl (WL.ix rfl rfl (hix16 _ Tryz.underlying31 iy151 rfl) rfl (WL.fa rfl (fld151_2 _ _ _) rfl (WL.ld rfl (load_list hv18 iy149 r17_2 (h.st.at_ hS16 hlt16 (hA16.sub 17 1))) rfl (WL.len rfl (lS Tryz.underlying149) rfl (WL.bi rfl rfl (run_lss (c := decide (i19 < l18.length)) (decide_eq_decide.2 Int.ofNat_lt.symm)) rfl (WL.nx (W.cond rfl (fun ht => W.skip fun a ha => tN ?_) (fun hf => W.exit fun a ha => tE (tE (eH ?_))))))))))))))))
         · have hil : i19 < l18.length := of_decide_eq_true ht
           obtain ⟨t20, hti20⟩ : ∃ t, l18[i19]? = some t := ⟨_, List.getElem?_eq_getElem hil⟩
           obtain ⟨b20, o20, ds20, hix20, hS20, hlt20, hA20, hr20⟩ := hget18 i19 t20 hti20
           have hw20 := T.wt_mem (List.mem_of_getElem? hti20)
           replace h := h.pop hti20
           refine W.run ha (W.sq (W.bk ?_))
           obtain ⟨fl21, rfl, hlen21, hF21⟩ := hr20.st_inv
           obtain ⟨a21_0, fl21, rfl, r21_0, hF21⟩ := hF21.cons_inv
           obtain ⟨a21_1, fl21, rfl, r21_1, hF21⟩ := hF21.cons_inv
           obtain ⟨a21_2, fl21, rfl, r21_2, hF21⟩ := hF21.cons_inv
           obtain rfl := hF21.nil_inv
           simp only [Nat.zero_add, Nat.reduceAdd, Ty.size, SN.size] at r21_0 r21_1 r21_2
           replace h := h.flat rfl
           refine W.sq (W.rg (WL.mv rfl rfl (WL.fa rfl (fld36_6 _ _ _) rfl (WL.ld rfl (load_list hv4 iy31 r1_6 (h.st.at_ hS hlt (hA.sub 6 1))) rfl (WL.mv rfl rfl (WL.ix rfl rfl (hix16 _ Tryz.underlying31 iy151 rfl) rfl (WL.fa rfl (fld151_2 _ _ _) rfl (WL.ld rfl (load_list hv18 iy149 r17_2 (h.st.at_ hS16 hlt16 (hA16.sub 17 1))) rfl (WL.mv rfl rfl (WL.ix rfl rfl (hix20 _ Tryz.underlying149 iy182 rfl) rfl (WL.fa rfl (fld182_0 _ _ _) rfl (WL.ld rfl (lR (f := .list (.st .expr)) iy64 r21_0 (h.st.at_ hS20 hlt20 (hA20.sub 0 1))) rfl (WL.cl Tryz.call143 rfl rfl (h.call xExprs r21_0) ?_ nop)))))))))))))
           rintro _ w1 ⟨rfl, O1, x1, h⟩
           refine WL.nx ?_
           refine W.sq (W.rg (WL.mv rfl rfl (WL.fa rfl (fld36_6 _ _ _) rfl (WL.ld rfl (load_list hv4 iy31 r1_6 (h.st.at_ hS hlt (hA.sub 6 1))) rfl (WL.mv rfl rfl (WL.ix rfl rfl (hix16 _ Tryz.underlying31 iy151 rfl) rfl (WL.fa rfl (fld151_2 _ _ _) rfl (WL.ld rfl (load_list hv18 iy149 r17_2 (h.st.at_ hS16 hlt16 (hA16.sub 17 1))) rfl (WL.mv rfl rfl (WL.ix rfl rfl (hix20 _ Tryz.underlying149 iy182 rfl) rfl (WL.fa rfl (fld182_1 _ _ _) rfl (WL.ld rfl (lR (f := .bool) iy4 r21_1 (h.st.at_ hS20 hlt20 (hA20.sub 1 1))) rfl (WL.cl Tryz.call138 rfl rfl (h.call x138 r21_1) ?_ nop)))))))))))))
           rintro _ w1 ⟨rfl, O1, x1, h⟩
           refine WL.nx ?_
           refine W.rg (WL.mv rfl rfl (WL.fa rfl (fld36_6 _ _ _) rfl (WL.ld rfl (load_list hv4 iy31 r1_6 (h.st.at_ hS hlt (hA.sub 6 1))) rfl (WL.mv rfl rfl (WL.ix rfl rfl (hix16 _ Tryz.underlying31 iy151 rfl) rfl (WL.fa rfl (fld151_2 _ _ _) rfl (WL.ld rfl (load_list hv18 iy149 r17_2 (h.st.at_ hS16 hlt16 (hA16.sub 17 1))) rfl (WL.mv rfl rfl (WL.ix rfl rfl (hix20 _ Tryz.underlying149 iy182 rfl) rfl (WL.fa rfl (fld182_2 _ _ _) rfl (WL.ld rfl (lR (f := .st .expr) iy66 r21_2 (h.st.at_ hS20 hlt20 (hA20.sub 2 16))) rfl (WL.cl Tryz.call144 rfl rfl (h.call xExpr r21_2) ?_ nop))))))))))))
           rintro _ w1 ⟨rfl, O1, x1, h⟩
           refine WL.nil fun a ha => bN (tN ?_)
           refine W.run ha (W.rg (WL.mv rfl rfl (WL.bi rfl rfl rfl rfl (WL.an rfl rfl (WL.nil fun a ha => tN ?_)))))
           exact ⟨(i19 + 1, O1, x1, w1), ha.weak ⟨rfl, rfl, rfl, congrArg some (inc_i64 (lt_len hil hml18)), trivial⟩, ⟨rfl, hil, h⟩, Nat.sub_lt_sub_left hil (Nat.lt_succ_self i19)⟩
         · have hend : i19 = l18.length := Nat.le_antisymm hi (Nat.le_of_not_lt (of_decide_eq_false hf))
           replace h := h.popped hend
           refine W.run ha (W.rg (WL.mv rfl rfl (WL.bi rfl rfl rfl rfl (WL.an rfl rfl (WL.nil fun a ha => tN ?_)))))
           exact ⟨(i15 + 1, O1, x1, w1), ha.weak ⟨rfl, rfl, congrArg some (inc_i64 (lt_len hil hml4)), trivial⟩, ⟨rfl, hil, h⟩, Nat.sub_lt_sub_left hil (Nat.lt_succ_self i15)⟩
       · have hend : i15 = l4.length := Nat.le_antisymm hi (Nat.le_of_not_lt (of_decide_eq_false hf))
         replace h := h.popped hend
         refine W.run ha ?_
         refine W.sq (W.rg (WL.mv rfl rfl (WL.fa rfl (fld36_7 _ _ _) rfl (WL.ld rfl (load_list hv5 iy32 r1_7 (h.st.at_ hS hlt (hA.sub 7 1))) rfl (WL.len rfl (lS Tryz.underlying32) rfl (WL.cl Tryz.call137 rfl rfl h.len ?_ nop))))))
         rintro _ w1 ⟨rfl, O1, x1, h⟩
         refine WL.nx ?_
         refine W.sq (W.sq (W.rg (WL.an rfl rfl (WL.nx ?_))))
         refine W.bk (W.loop (ι := Nat × (Nat → Prop) × XW × World) (fun i => [(0, ptr p), (3, ptr bx), (8, .int .i64 (i.1 : Int))])
          (fun i w' => w' = i.2.2.2 ∧ i.1 ≤ l5.length ∧ XS wb (plus w0 S bx) p most long Od wd (l5.drop i.1 ++ ((.list l6) :: (.list l7) :: [])) (encRL most long [a1_0, (.list l2), a1_2, a1_3, a1_4, (.list l3), (.list l4), (.list l5), (.list l6), (.list l7)] ({ x.1 with nest := x.1.nest + 1 }, false)) i.2.1 w' i.2.2.1) (fun i => l5.length - i.1) (0, O1, x1, w1) ⟨rfl, rfl, rfl, trivial⟩ ⟨rfl, Nat.zero_le _, h⟩ ?_)
         clear h
         rintro ⟨i22, O1, x1, _⟩ w1 ⟨rfl, hi, h⟩
         simp only at hi h ⊢
         refine W.sq (W.sq (W.rg (WL.mv rfl rfl (WL.fa rfl (fld36_7 _ _ _) rfl (WL.ld rfl (load_list hv5 iy32 r1_7 (h.st.at_ hS hlt (hA.sub 7 1))) rfl (WL.len rfl (lS Tryz.underlying32) rfl (WL.bi rfl rfl (run_lss (c := decide (i22 < l5.length)) (decide_eq_decide.2 Int.ofNat_lt.symm)) rfl (WL.nx (W.cond rfl (fun ht => W.skip fun a ha => tN ?_) (fun hf => W.exit fun a ha => tE (tE (eH (tN ?_)))))))))))))
         · have hil : i22 < l5.length := of_decide_eq_true ht
           obtain ⟨t23, hti23⟩ : ∃ t, l5[i22]? = some t := ⟨_, List.getElem?_eq_getElem hil⟩
           obtain ⟨b23, o23, ds23, hix23, hS23, hlt23, hA23, hr23⟩ := hget5 i22 t23 hti23
           have hw23 := T.wt_mem (List.mem_of_getElem? hti23)
           replace h := h.pop hti23
           refine W.run ha (W.sq (W.bk ?_))
           obtain ⟨fl24, rfl, hlen24, hF24⟩ := hr23.st_inv
           obtain ⟨a24_0, fl24, rfl, r24_0, hF24⟩ := hF24.cons_inv
           obtain ⟨a24_1, fl24, rfl, r24_1, hF24⟩ := hF24.cons_inv
           obtain ⟨a24_2, fl24, rfl, r24_2, hF24⟩ := hF24.cons_inv
           obtain ⟨a24_3, fl24, rfl, r24_3, hF24⟩ := hF24.cons_inv
           obtain ⟨a24_4, fl24, rfl, r24_4, hF24⟩ := hF24.cons_inv
           obtain ⟨a24_5, fl24, rfl, r24_5, hF24⟩ := hF24.cons_inv
           obtain rfl := hF24.nil_inv
           simp only [Nat.zero_add, Nat.reduceAdd, Ty.size] at r24_0 r24_1 r24_2 r24_3 r24_4 r24_5
           replace h := h.flat rfl
           refine W.sq (W.rg (WL.mv rfl rfl (WL.fa rfl (fld36_7 _ _ _) rfl (WL.ld rfl (load_list hv5 iy32 r1_7 (h.st.at_ hS hlt (hA.sub 7 1))) rfl (WL.mv rfl rfl (WL.ix rfl rfl (hix23 _ Tryz.underlying32 iy84 rfl) rfl (WL.fa rfl (fld84_0 _ _ _) rfl (WL.ld rfl (lR (f := .str) iy9 r24_0 (h.st.at_ hS23 hlt23 (hA23.sub 0 1))) rfl (WL.cl Tryz.call136 rfl rfl (h.call x136 r24_0) ?_ nop)))))))))
           rintro _ w1 ⟨rfl, O1, x1, h⟩
           refine WL.nx ?_
           refine W.sq (W.rg (WL.mv rfl rfl (WL.fa rfl (fld36_7 _ _ _) rfl (WL.ld rfl (load_list hv5 iy32 r1_7 (h.st.at_ hS hlt (hA.sub 7 1))) rfl (WL.mv rfl rfl (WL.ix rfl rfl (hix23 _ Tryz.underlying32 iy84 rfl) rfl (WL.fa rfl (fld84_1 _ _ _) rfl (WL.ld rfl (lR (f := .str) iy9 r24_1 (h.st.at_ hS23 hlt23 (hA23.sub 1 1))) rfl (WL.cl Tryz.call136 rfl rfl (h.call x136 r24_1) ?_ nop)))))))))
           rintro _ w1 ⟨rfl, O1, x1, h⟩
           refine WL.nx ?_
           refine W.sq (W.rg (WL.mv rfl rfl (WL.fa rfl (fld36_7 _ _ _) rfl (WL.ld rfl (load_list hv5 iy32 r1_7 (h.st.at_ hS hlt (hA.sub 7 1))) rfl (WL.mv rfl rfl (WL.ix rfl rfl (hix23 _ Tryz.underlying32 iy84 rfl) rfl (WL.fa rfl (fld84_2 _ _ _) rfl (WL.ld rfl (lR (f := .bool) iy4 r24_2 (h.st.at_ hS23 hlt23 (hA23.sub 2 1))) rfl (WL.cl Tryz.call138 rfl rfl (h.call x138 r24_2) ?_ nop)))))))))
           rintro _ w1 ⟨rfl, O1, x1, h⟩
           refine WL.nx ?_
           refine W.sq (W.rg (WL.mv rfl rfl (WL.fa rfl (fld36_7 _ _ _) rfl (WL.ld rfl (load_list hv5 iy32 r1_7 (h.st.at_ hS hlt (hA.sub 7 1))) rfl (WL.mv rfl rfl (WL.ix rfl rfl (hix23 _ Tryz.underlying32 iy84 rfl) rfl (WL.fa rfl (fld84_3 _ _ _) rfl (WL.ld rfl (lR (f := .bool) iy4 r24_3 (h.st.at_ hS23 hlt23 (hA23.sub 3 1))) rfl (WL.cl Tryz.call138 rfl rfl (h.call x138 r24_3) ?_ nop)))))))))
           rintro _ w1 ⟨rfl, O1, x1, h⟩
           refine WL.nx ?_
           refine W.sq (W.rg (WL.mv rfl rfl (WL.fa rfl (fld36_7 _ _ _) rfl (WL.ld rfl (load_list hv5 iy32 r1_7 (h.st.at_ hS hlt (hA.sub 7 1))) rfl (WL.mv rfl rfl (WL.ix rfl rfl (hix23 _ Tryz.underlying32 iy84 rfl) rfl (WL.fa rfl (fld84_4 _ _ _) rfl (WL.ld rfl (lR (f := .str) iy9 r24_4 (h.st.at_ hS23 hlt23 (hA23.sub 4 1))) rfl (WL.cl Tryz.call136 rfl rfl (h.call x136 r24_4) ?_ nop)))))))))
           rintro _ w1 ⟨rfl, O1, x1, h⟩
           refine WL.nx ?_
           refine W.rg (WL.mv rfl rfl (WL.fa rfl (fld36_7 _ _ _) rfl (WL.ld rfl (load_list hv5 iy32 r1_7 (h.st.at_ hS hlt (hA.sub 7 1))) rfl (WL.mv rfl rfl (WL.ix rfl rfl (hix23 _ Tryz.underlying32 iy84 rfl) rfl (WL.fa rfl (fld84_5 _ _ _) rfl (WL.ld rfl (lR (f := .int) iy3 r24_5 (h.st.at_ hS23 hlt23 (hA23.sub 5 1))) rfl (WL.cl Tryz.call139 rfl rfl (h.call x139 r24_5) ?_ nop))))))))
           rintro _ w1 ⟨rfl, O1, x1, h⟩
           refine WL.nil fun a ha => bN (tN ?_)
           refine W.run ha (W.rg (WL.mv rfl rfl (WL.bi rfl rfl rfl rfl (WL.an rfl rfl (WL.nil fun a ha => tN ?_)))))
           exact ⟨(i22 + 1, O1, x1, w1), ha.weak ⟨rfl, rfl, congrArg some (inc_i64 (lt_len hil hml5)), trivial⟩, ⟨rfl, hil, h⟩, Nat.sub_lt_sub_left hil (Nat.lt_succ_self i22)⟩
         · have hend : i22 = l5.length := Nat.le_antisymm hi (Nat.le_of_not_lt (of_decide_eq_false hf))
           replace h := h.popped hend
           refine W.run ha ?_
           refine W.sq (W.rg (WL.mv rfl rfl (WL.fa rfl (fld36_8 _ _ _) rfl (WL.ld rfl (load_list hv6 iy33 r1_8 (h.st.at_ hS hlt (hA.sub 8 1))) rfl (WL.len rfl (lS Tryz.underlying33) rfl (WL.cl Tryz.call137 rfl rfl h.len ?_ nop))))))
           rintro _ w1 ⟨rfl, O1, x1, h⟩
           refine WL.nx ?_
           refine W.sq (W.sq (W.rg (WL.an rfl rfl (WL.nx ?_))))
           refine W.bk (W.loop (ι := Nat × (Nat → Prop) × XW × World) (fun i => [(0, ptr p), (3, ptr bx), (9, .int .i64 (i.1 : Int))])
            (fun i w' => w' = i.2.2.2 ∧ i.1 ≤ l6.length ∧ XS wb (plus w0 S bx) p most long Od wd (l6.drop i.1 ++ ((.list l7) :: [])) (encRL most long [a1_0, (.list l2), a1_2, a1_3, a1_4, (.list l3), (.list l4), (.list l5), (.list l6), (.list l7)] ({ x.1 with nest := x.1.nest + 1 }, false)) i.2.1 w' i.2.2.1) (fun i => l6.length - i.1) (0, O1, x1, w1) ⟨rfl, rfl, rfl, trivial⟩ ⟨rfl, Nat.zero_le _, h⟩ ?_)
           clear h
           rintro ⟨i25, O1, x1, _⟩ w1 ⟨rfl, hi, h⟩
           simp only at hi h ⊢
           refine W.sq (W.sq (W.rg (WL.mv rfl rfl (WL.fa rfl (fld36_8 _ _ _) rfl (WL.ld rfl (load_list hv6 iy33 r1_8 (h.st.at_ hS hlt (hA.sub 8 1))) rfl (WL.len rfl (lS Tryz.underlying33) rfl (WL.bi rfl rfl (run_lss (c := decide (i25 < l6.length)) (decide_eq_decide.2 Int.ofNat_lt.symm)) rfl (WL.nx (W.cond rfl (fun ht => W.skip fun a ha => tN ?_) (fun hf => W.exit fun a ha => tE (tE (eH (tN ?_)))))))))))))
           · have hil : i25 < l6.length := of_decide_eq_true ht
             obtain ⟨t26, hti26⟩ : ∃ t, l6[i25]? = some t := ⟨_, List.getElem?_eq_getElem hil⟩
             obtain ⟨b26, o26, ds26, hix26, hS26, hlt26, hA26, hr26⟩ := hget6 i25 t26 hti26
             have hw26 := T.wt_mem (List.mem_of_getElem? hti26)
             replace h := h.pop hti26
             refine W.run ha (W.sq (W.bk ?_))
             obtain ⟨fl27, rfl, hlen27, hF27⟩ := hr26.st_inv
             obtain ⟨a27_0, fl27, rfl, r27_0, hF27⟩ := hF27.cons_inv
             obtain ⟨a27_1, fl27, rfl, r27_1, hF27⟩ := hF27.cons_inv
             obtain ⟨a27_2, fl27, rfl, r27_2, hF27⟩ := hF27.cons_inv
             obtain ⟨a27_3, fl27, rfl, r27_3, hF27⟩ := hF27.cons_inv
             obtain ⟨a27_4, fl27, rfl, r27_4, hF27⟩ := hF27.cons_inv
             obtain rfl := hF27.nil_inv
             simp only [Nat.zero_add, Nat.reduceAdd, Ty.size] at r27_0 r27_1 r27_2 r27_3 r27_4
             replace h := h.flat rfl
             refine W.sq (W.rg (WL.mv rfl rfl (WL.fa rfl (fld36_8 _ _ _) rfl (WL.ld rfl (load_list hv6 iy33 r1_8 (h.st.at_ hS hlt (hA.sub 8 1))) rfl (WL.mv rfl rfl (WL.ix rfl rfl (hix26 _ Tryz.underlying33 iy157 rfl) rfl (WL.fa rfl (fld157_0 _ _ _) rfl (WL.ld rfl (lR (f := .str) iy9 r27_0 (h.st.at_ hS26 hlt26 (hA26.sub 0 1))) rfl (WL.cl Tryz.call136 rfl rfl (h.call x136 r27_0) ?_ nop)))))))))
             rintro _ w1 ⟨rfl, O1, x1, h⟩
             refine WL.nx ?_
             refine W.sq (W.rg (WL.mv rfl rfl (WL.fa rfl (fld36_8 _ _ _) rfl (WL.ld rfl (load_list hv6 iy33 r1_8 (h.st.at_ hS hlt (hA.sub 8 1))) rfl (WL.mv rfl rfl (WL.ix rfl rfl (hix26 _ Tryz.underlying33 iy157 rfl) rfl (WL.fa rfl (fld157_1 _ _ _) rfl (WL.ld rfl (lR (f := .str) iy9 r27_1 (h.st.at_ hS26 hlt26 (hA26.sub 1 1))) rfl (WL.cl Tryz.call136 rfl rfl (h.call x136 r27_1) ?_ nop)))))))))
             rintro _ w1 ⟨rfl, O1, x1, h⟩
             refine WL.nx ?_
             refine W.sq (W.rg (WL.mv rfl rfl (WL.fa rfl (fld36_8 _ _ _) rfl (WL.ld rfl (load_list hv6 iy33 r1_8 (h.st.at_ hS hlt (hA.sub 8 1))) rfl (WL.mv rfl rfl (WL.ix rfl rfl (hix26 _ Tryz.underlying33 iy157 rfl) rfl (WL.fa rfl (fld157_2 _ _ _) rfl (WL.ld rfl (lR (f := .bool) iy4 r27_2 (h.st.at_ hS26 hlt26 (hA26.sub 2 1))) rfl (WL.cl Tryz.call138 rfl rfl (h.call x138 r27_2) ?_ nop)))))))))
             rintro _ w1 ⟨rfl, O1, x1, h⟩
             refine WL.nx ?_
             refine W.sq (W.rg (WL.mv rfl rfl (WL.fa rfl (fld36_8 _ _ _) rfl (WL.ld rfl (load_list hv6 iy33 r1_8 (h.st.at_ hS hlt (hA.sub 8 1))) rfl (WL.mv rfl rfl (WL.ix rfl rfl (hix26 _ Tryz.underlying33 iy157 rfl) rfl (WL.fa rfl (fld157_3 _ _ _) rfl (WL.ld rfl (lR (f := .bool) iy4 r27_3 (h.st.at_ hS26 hlt26 (hA26.sub 3 1))) rfl (WL.cl Tryz.call138 rfl rfl (h.call x138 r27_3) ?_ nop)))))))))
             rintro _ w1 ⟨rfl, O1, x1, h⟩
             refine WL.nx ?_
             refine W.rg (WL.mv rfl rfl (WL.fa rfl (fld36_8 _ _ _) rfl (WL.ld rfl (load_list hv6 iy33 r1_8 (h.st.at_ hS hlt (hA.sub 8 1))) rfl (WL.mv rfl rfl (WL.ix rfl rfl (hix26 _ Tryz.underlying33 iy157 rfl) rfl (WL.fa rfl (fld157_4 _ _ _) rfl (WL.ld rfl (lR (f := .list (.str)) iy44 r27_4 (h.st.at_ hS26 hlt26 (hA26.sub 4 1))) rfl (WL.cl Tryz.call145 rfl rfl (h.call x145 r27_4) ?_ nop))))))))
             rintro _ w1 ⟨rfl, O1, x1, h⟩
             refine WL.nil fun a ha => bN (tN ?_)
             refine W.run ha (W.rg (WL.mv rfl rfl (WL.bi rfl rfl rfl rfl (WL.an rfl rfl (WL.nil fun a ha => tN ?_)))))
             exact ⟨(i25 + 1, O1, x1, w1), ha.weak ⟨rfl, rfl, congrArg some (inc_i64 (lt_len hil hml6)), trivial⟩, ⟨rfl, hil, h⟩, Nat.sub_lt_sub_left hil (Nat.lt_succ_self i25)⟩
           · have hend : i25 = l6.length := Nat.le_antisymm hi (Nat.le_of_not_lt (of_decide_eq_false hf))
             replace h := h.popped hend
             refine W.run ha ?_
             refine W.sq (W.rg (WL.mv rfl rfl (WL.fa rfl (fld36_9 _ _ _) rfl (WL.ld rfl (load_list hv7 iy34 r1_9 (h.st.at_ hS hlt (hA.sub 9 1))) rfl (WL.len rfl (lS Tryz.underlying34) rfl (WL.cl Tryz.call137 rfl rfl h.len ?_ nop))))))
             rintro _ w1 ⟨rfl, O1, x1, h⟩
             refine WL.nx ?_
             refine W.sq (W.rg (WL.an rfl rfl (WL.nx ?_)))
             refine W.bk (W.loop (ι := Nat × (Nat → Prop) × XW × World) (fun i => [(0, ptr p), (3, ptr bx), (10, .int .i64 (i.1 : Int))])
              (fun i w' => w' = i.2.2.2 ∧ i.1 ≤ l7.length ∧ XS wb (plus w0 S bx) p most long Od wd (l7.drop i.1 ++ ([])) (encRL most long [a1_0, (.list l2), a1_2, a1_3, a1_4, (.list l3), (.list l4), (.list l5), (.list l6), (.list l7)] ({ x.1 with nest := x.1.nest + 1 }, false)) i.2.1 w' i.2.2.1) (fun i => l7.length - i.1) (0, O1, x1, w1) ⟨rfl, rfl, rfl, trivial⟩ ⟨rfl, Nat.zero_le _, h⟩ ?_)
             clear h
             rintro ⟨i28, O1, x1, _⟩ w1 ⟨rfl, hi, h⟩
             simp only at hi h ⊢
             refine W.sq (W.sq (W.rg (WL.mv rfl rfl (WL.fa rfl (fld36_9 _ _ _) rfl (WL.ld rfl (load_list hv7 iy34 r1_9 (h.st.at_ hS hlt (hA.sub 9 1))) rfl (WL.len rfl (lS Tryz.underlying34) rfl (WL.bi rfl rfl (run_lss (c := decide (i28 < l7.length)) (decide_eq_decide.2 Int.ofNat_lt.symm)) rfl (WL.nx (W.cond rfl (fun ht => W.skip fun a ha => tN ?_) (fun hf => W.exit fun a ha => tE (tE (eH ?_))))))))))))
             · have hil : i28 < l7.length := of_decide_eq_true ht
               obtain ⟨t29, hti29⟩ : ∃ t, l7[i28]? = some t := ⟨_, List.getElem?_eq_getElem hil⟩
               obtain ⟨b29, o29, ds29, hix29, hS29, hlt29, hA29, hr29⟩ := hget7 i28 t29 hti29
               have hw29 := T.wt_mem (List.mem_of_getElem? hti29)
               replace h := h.pop hti29
               refine W.run ha (W.sq (W.bk ?_))
               obtain ⟨fl30, rfl, hlen30, hF30⟩ := hr29.st_inv
               obtain ⟨a30_0, fl30, rfl, r30_0, hF30⟩ := hF30.cons_inv
               obtain ⟨a30_1, fl30, rfl, r30_1, hF30⟩ := hF30.cons_inv
               obtain rfl := hF30.nil_inv
               simp only [Nat.zero_add, Ty.size] at r30_0 r30_1
               obtain ⟨l31, rfl⟩ := r30_1.is_list
               obtain ⟨g31, cap31, hv31, hml31, hget31⟩ := list_at r30_1
               replace h := h.flat rfl
               refine W.sq (W.rg (WL.mv rfl rfl (WL.fa rfl (fld36_9 _ _ _) rfl (WL.ld rfl (load_list hv7 iy34 r1_9 (h.st.at_ hS hlt (hA.sub 9 1))) rfl (WL.mv rfl rfl (WL.ix rfl rfl (hix29 _ Tryz.underlying34 iy162 rfl) rfl (WL.fa rfl (fld162_0 _ _ _) rfl (WL.ld rfl (lR (f := .str) iy9 r30_0 (h.st.at_ hS29 hlt29 (hA29.sub 0 1))) rfl (WL.cl Tryz.call136 rfl rfl (h.call x136 r30_0) ?_ nop)))))))))
               rintro _ w1 ⟨rfl, O1, x1, h⟩
               refine WL.nx ?_
               refine W.sq (W.rg (WL.mv rfl rfl (WL.fa rfl (fld36_9 _ _ _) rfl (WL.ld rfl (load_list hv7 iy34 r1_9 (h.st.at_ hS hlt (hA.sub 9 1))) rfl (WL.mv rfl rfl (WL.ix rfl rfl (hix29 _ Tryz.underlying34 iy162 rfl) rfl (WL.fa rfl (fld162_1 _ _ _) rfl (WL.ld rfl (load_list hv31 iy160 r30_1 (h.st.at_ hS29 hlt29 (hA29.sub 1 1))) rfl (WL.len rfl (lS Tryz.underlying160) rfl (WL.cl Tryz.call137 rfl rfl h.len ?_ nop))))))))))
               rintro _ w1 ⟨rfl, O1, x1, h⟩
               refine WL.nx ?_
               refine W.sq (W.rg (WL.an rfl rfl (WL.nx ?_)))
               refine W.bk (W.loop (ι := Nat × (Nat → Prop) × XW × World) (fun i => [(0, ptr p), (3, ptr bx), (10, .int .i64 (i28 : Int)), (11, .int .i64 (i.1 : Int))])
                (fun i w' => w' = i.2.2.2 ∧ i.1 ≤ l31.length ∧ XS wb (plus w0 S bx) p most long Od wd (l31.drop i.1 ++ ((l7.drop (i28 + 1) ++ ([])))) (encRL most long [a1_0, (.list l2), a1_2, a1_3, a1_4, (.list l3), (.list l4), (.list l5), (.list l6), (.list l7)] ({ x.1 with nest := x.1.nest + 1 }, false)) i.2.1 w' i.2.2.1) (fun i => l31.length - i.1) (0, O1, x1, w1) ⟨rfl, rfl, rfl, rfl, trivial⟩ ⟨rfl, Nat.zero_le _, h⟩ ?_)
               clear h
               rintro ⟨i32, O1, x1, _⟩ w1 ⟨rfl, hi, h⟩
               simp only at hi h ⊢
               refine W.sq (W.sq (W.rg (WL.mv rfl rfl (WL.fa rfl (fld36_9 _ _ _) rfl (WL.ld rfl (load_list hv7 iy34 r1_9 (h.st.at_ hS hlt (hA.sub 9 1))) rfl (WL.mv rfl rfl (WL.ix rfl rfl (hix29 _ Tryz.underlying34 iy162 rfl) rfl (WL.fa rfl (fld162_1 _ _ _) rfl (WL.ld rfl (load_list hv31 iy160 r30_1 (h.st.at_ hS29 hlt29 (hA29.sub 1 1))) rfl (WL.len rfl (lS Tryz.underlying160) rfl (WL.bi rfl rfl (run_lss (c := decide (i32 < l31.length)) (decide_eq_decide.2 Int.ofNat_lt.symm)) rfl (WL.nx (W.cond rfl (fun ht => W.skip fun a ha => tN ?_) (fun hf => W.exit fun a ha => tE (tE (eH ?_))))))))))))))))
               · have hil : i32 < l31.length := of_decide_eq_true ht
                 obtain ⟨t33, hti33⟩ : ∃ t, l31[i32]? = some t := ⟨_, List.getElem?_eq_getElem hil⟩
                 obtain ⟨b33, o33, ds33, hix33, hS33, hlt33, hA33, hr33⟩ := hget31 i32 t33 hti33
                 have hw33 := T.wt_mem (List.mem_of_getElem? hti33)
                 replace h := h.pop hti33
                 refine W.run ha (W.sq (W.bk ?_))
                 obtain ⟨fl34, rfl, hlen34, hF34⟩ := hr33.st_inv
                 obtain ⟨a34_0, fl34, rfl, r34_0, hF34⟩ := hF34.cons_inv
                 obtain ⟨a34_1, fl34, rfl, r34_1, hF34⟩ := hF34.cons_inv
                 obtain rfl := hF34.nil_inv
                 simp only [Nat.zero_add, Ty.size] at r34_0 r34_1
                 replace h := h.flat rfl
                 refine W.sq (W.rg (WL.mv rfl rfl (WL.fa rfl (fld36_9 _ _ _) rfl (WL.ld rfl (load_list hv7 iy34 r1_9 (h.st.at_ hS hlt (hA.sub 9 1))) rfl (WL.mv rfl rfl (WL.ix rfl rfl (hix29 _ Tryz.underlying34 iy162 rfl) rfl (WL.fa rfl (fld162_1 _ _ _) rfl (WL.ld rfl (load_list hv31 iy160 r30_1 (h.st.at_ hS29 hlt29 (hA29.sub 1 1))) rfl (WL.mv rfl rfl (WL.ix rfl rfl (hix33 _ Tryz.underlying160 iy170 rfl) rfl (WL.fa rfl (fld170_0 _ _ _) rfl (WL.ld rfl (lR (f := .int) iy3 r34_0 (h.st.at_ hS33 hlt33 (hA33.sub 0 1))) rfl (WL.cl Tryz.call139 rfl rfl (h.call x139 r34_0) ?_ nop)))))))))))))
                 rintro _ w1 ⟨rfl, O1, x1, h⟩
                 refine WL.nx ?_
                 refine W.rg (WL.mv rfl rfl (WL.fa rfl (fld36_9 _ _ _) rfl (WL.ld rfl (load_list hv7 iy34 r1_9 (h.st.at_ hS hlt (hA.sub 9 1))) rfl (WL.mv rfl rfl (WL.ix rfl rfl (hix29 _ Tryz.underlying34 iy162 rfl) rfl (WL.fa rfl (fld162_1 _ _ _) rfl (WL.ld rfl (load_list hv31 iy160 r30_1 (h.st.at_ hS29 hlt29 (hA29.sub 1 1))) rfl (WL.mv rfl rfl (WL.ix rfl rfl (hix33 _ Tryz.underlying160 iy170 rfl) rfl (WL.fa rfl (fld170_1 _ _ _) rfl (WL.ld rfl (lR (f := .str) iy9 r34_1 (h.st.at_ hS33 hlt33 (hA33.sub 1 1))) rfl (WL.cl Tryz.call136 rfl rfl (h.call x136 r34_1) ?_ nop))))))))))))
                 rintro _ w1 ⟨rfl, O1, x1, h⟩
                 refine WL.nil fun a ha => bN (tN ?_)
                 refine W.run ha (W.rg (WL.mv rfl rfl (WL.bi rfl rfl rfl rfl (WL.an rfl rfl (WL.nil fun a ha => tN ?_)))))
                 exact ⟨(i32 + 1, O1, x1, w1), ha.weak ⟨rfl, rfl, rfl, congrArg some (inc_i64 (lt_len hil hml31)), trivial⟩, ⟨rfl, hil, h⟩, Nat.sub_lt_sub_left hil (Nat.lt_succ_self i32)⟩
               · have hend : i32 = l31.length := Nat.le_antisymm hi (Nat.le_of_not_lt (of_decide_eq_false hf))
                 replace h := h.popped hend
                 refine W.run ha (W.rg (WL.mv rfl rfl (WL.bi rfl rfl rfl rfl (WL.an rfl rfl (WL.nil fun a ha => tN ?_)))))
                 exact ⟨(i28 + 1, O1, x1, w1), ha.weak ⟨rfl, rfl, congrArg some (inc_i64 (lt_len hil hml7)), trivial⟩, ⟨rfl, hil, h⟩, Nat.sub_lt_sub_left hil (Nat.lt_succ_self i28)⟩
             · have hend : i28 = l7.length := Nat.le_antisymm hi (Nat.le_of_not_lt (of_decide_eq_false hf))
               replace h := h.popped hend
               obtain ⟨ff, hs⟩ := h.fin
               have hnn : (encRL most long [a1_0, (.list l2), a1_2, a1_3, a1_4, (.list l3), (.list l4), (.list l5), (.list l6), (.list l7)] ({ x.1 with nest := x.1.nest + 1 }, false)).1.nest = x.1.nest + 1 := (encRL_use (most := most) (long := long) [a1_0, (.list l2), a1_2, a1_3, a1_4, (.list l3), (.list l4), (.list l5), (.list l6), (.list l7)] ({ x.1 with nest := x.1.nest + 1 }, false) (use_down hu)).2
               have e := encR_deepF (most := most) (long := long) (l := [a1_0, (.list l2), a1_2, a1_3, a1_4, (.list l3), (.list l4), (.list l5), (.list l6), (.list l7)]) (sn := .sheet) (x := x) rfl hC
               clear h
               generalize encRL most long [a1_0, (.list l2), a1_2, a1_3, a1_4, (.list l3), (.list l4), (.list l5), (.list l6), (.list l7)] ({ x.1 with nest := x.1.nest + 1 }, false) = tgt at hs hnn e
               obtain ⟨_, hc2, _, _, _, setN, _⟩ := hs.flags
               obtain ⟨w2, O2, hstu, fu, hu2⟩ := setN (tgt.1.nest - 1)
               refine W.run ha (W.rg (WL.mv rfl rfl (WL.nc rfl rfl (WL.fa rfl (field173_2 _ _ _) rfl (WL.ld rfl (load1 ty3 hc2) rfl (WL.bi rfl rfl (run_dec hnn (use_nest hu)) rfl (WL.nc rfl rfl (WL.fa rfl (field173_2 _ _ _) rfl (WL.so rfl rfl hstu (WL.nil fun a ha => ?_))))))))))
               rw [e]
               exact post_end0 rfl ha ⟨rfl, O2, (fb.drop (fun _ h => h.elim)).trans (fd.trans (ff.trans fu)), hx.unbase fb hu2⟩
 · have hC : x.2 = true ∨ most < x.1.nest + 1 ∨ long < x.1.b.length := by simpa only [Bool.not_eq_false', decide_eq_true_eq] using hf
   rw [decide_eq_true hC] at hx2
   have hnn : x.1.nest + 1 = x.1.nest + 1 := rfl
   obtain ⟨_, hc2, _, _, _, setN, _⟩ := hx2.flags
   simp only at hc2 setN
   obtain ⟨w2, O2, hstu, fu, hu2⟩ := setN (x.1.nest + 1 - 1)
   refine W.run ha (W.rg (WL.mv rfl rfl (WL.nc rfl rfl (WL.fa rfl (field173_2 _ _ _) rfl (WL.ld rfl (load1 ty3 hc2) rfl (WL.bi rfl rfl (run_dec hnn (use_nest hu)) rfl (WL.nc rfl rfl (WL.fa rfl (field173_2 _ _ _) rfl (WL.so rfl rfl hstu (WL.nil fun a ha => ?_))))))))))
   have e := encR_deepT (most := most) (long := long) (l := [a1_0, (.list l2), a1_2, a1_3, a1_4, (.list l3), (.list l4), (.list l5), (.list l6), (.list l7)]) (sn := .sheet) (x := x) rfl hC
   rw [e]
   exact post_end0 rfl ha ⟨rfl, O2, (fb.drop (fun _ h => h.elim)).trans (fd.trans fu), hx.unbase fb hu2⟩
theorem xSheet {t : T} : XEnc 88 (.st .sheet) t := x88 t.wt t (Nat.le_refl _)
end Go.Sx
