import Derived.Test.YtdldhfocpandoaaGreatStN
import Derived.Test.YtdldhfocpandoaaGreatStD
set_option maxHeartbeats 8000000
set_option maxRecDepth 8000
namespace Go.Sx
open Go.Proofs Go.Proofs.Tryz
theorem RE : ∀ (N : Nat) (t : T), t.wt ≤ N → E4 200 (.list (.st .instr)) t := by
 intro N
 induction N using Nat.strongRecOn with
 | _ N IH =>
 intro t hN
 intro w0 S p most long x O w cs hr hx hu
 obtain ⟨l, rfl⟩ := hr.is_list
 obtain ⟨g, cap, hv, hml, hget⟩ := Bn hr
 rw [hv]
 have h := XS.start (r := [.list l]) hx (DR hu)
 obtain ⟨Z, hz, hzl⟩ : ∃ Z : List Value, (∀ w, (zeroValue 72).run prog w = .ok (.agg Z.toArray) w) ∧ Z.length = 51 := ⟨_, zeroValue72, rfl⟩
 refine AB 171 func200 V V V ?_
 refine Af (Aa (Ac V V (Ac V V (AE V (Ay underlying56) V (Aj call137 V V h.len ?_ Be)))))
 rintro _ w1 ⟨rfl, O1, x1, h⟩
 refine Ae ?_
 refine Af (Aa (Ah V V (Ae ?_)))
 refine A1 (AW (ι := Nat × (Nat → Prop) × XW × World) (fun i => [(0, ptr p), (1, .slice g l.length cap), (4, .int .i64 (i.1 : Int))])
  (fun i w' => w' = i.2.2.2 ∧ i.1 ≤ l.length ∧ XS w0 S p most long O w (l.drop i.1 ++ ([])) (BQ most long [.list l] x) i.2.1 w' i.2.2.1) (fun i => l.length - i.1) (0, O1, x1, w1) ⟨V, V, V, trivial⟩ ⟨rfl, Nat.zero_le _, h⟩ ?_)
 clear h
 rintro ⟨i1, O1, x1, _⟩ w1 ⟨rfl, hi, h⟩
 simp only at hi h ⊢
 refine Af (Af (Aa (Ac V V (Ac V V (AE V (Ay underlying56) V (Al V V (Bh (c := decide (i1 < l.length)) (decide_eq_decide.2 Int.ofNat_lt.symm)) V (Ae (AK V (fun ht => A_ fun a ha => Ad ?_) (fun hf => AQ fun a ha => Aq (Aq (A3 ?_)))))))))))
 · have hil : i1 < l.length := of_decide_eq_true ht
   obtain ⟨t2, hti2⟩ : ∃ t, l[i1]? = some t := ⟨_, List.getElem?_eq_getElem hil⟩
   obtain ⟨b2, o2, ds2, hix2, hS2, hlt2, hA2, hr2⟩ := hget i1 t2 hti2
   have hw2 := B5 (List.mem_of_getElem? hti2)
   replace h := h.pop hti2
   refine A8 ha (Af (A1 ?_))
   have hone := Rep.one _ _ _ hr2
   obtain ⟨wb, hstb, ab, fb⟩ := Dd (w := w1) (z := .agg Z.toArray) (zs := Z) Hh rfl hzl hone.1 hone.2
   refine Af (Aa (Ac V V (Ac V V (A0 V V (hix2 _ underlying56 Hh V) V (Ai V (Ap (f := .st .instr) Hh hr2 (h.st.at_ hS2 hlt2 hA2)) V (AO (hz _) V (An V V hstb ?_)))))))
   have hx1 := h.st.rebase fb (Nat.le_refl _) ab.lt
   have hrb := hr2.plus h.st fb w1.heap.size
   have hub := h.hd
   generalize w1.heap.size = bx at ab hx1 hrb ⊢
   have hAx := ab.all
   have hltx := ab.lt
   have hSx : plus w0 S bx bx := .inr rfl
   obtain ⟨fl3, rfl, hlen3, hF3⟩ := hrb.st_inv
   obtain ⟨a3_0, fl3, rfl, r3_0, hF3⟩ := hF3.cons_inv
   obtain ⟨a3_1, fl3, rfl, r3_1, hF3⟩ := hF3.cons_inv
   obtain ⟨a3_2, fl3, rfl, r3_2, hF3⟩ := hF3.cons_inv
   obtain ⟨a3_3, fl3, rfl, r3_3, hF3⟩ := hF3.cons_inv
   obtain ⟨a3_4, fl3, rfl, r3_4, hF3⟩ := hF3.cons_inv
   obtain ⟨a3_5, fl3, rfl, r3_5, hF3⟩ := hF3.cons_inv
   obtain ⟨a3_6, fl3, rfl, r3_6, hF3⟩ := hF3.cons_inv
   obtain ⟨a3_7, fl3, rfl, r3_7, hF3⟩ := hF3.cons_inv
   obtain ⟨a3_8, fl3, rfl, r3_8, hF3⟩ := hF3.cons_inv
   obtain ⟨a3_9, fl3, rfl, r3_9, hF3⟩ := hF3.cons_inv
   obtain ⟨a3_10, fl3, rfl, r3_10, hF3⟩ := hF3.cons_inv
   obtain ⟨a3_11, fl3, rfl, r3_11, hF3⟩ := hF3.cons_inv
   obtain ⟨a3_12, fl3, rfl, r3_12, hF3⟩ := hF3.cons_inv
   obtain ⟨a3_13, fl3, rfl, r3_13, hF3⟩ := hF3.cons_inv
   obtain ⟨a3_14, fl3, rfl, r3_14, hF3⟩ := hF3.cons_inv
   obtain ⟨a3_15, fl3, rfl, r3_15, hF3⟩ := hF3.cons_inv
   obtain ⟨a3_16, fl3, rfl, r3_16, hF3⟩ := hF3.cons_inv
   obtain rfl := hF3.nil_inv
   simp only [Nat.zero_add, Nat.reduceAdd, Ty.size, SN.size] at r3_0 r3_1 r3_2 r3_3 r3_4 r3_5 r3_6 r3_7 r3_8 r3_9 r3_10 r3_11 r3_12 r3_13 r3_14 r3_15 r3_16
   obtain ⟨l4, rfl⟩ := r3_11.is_list
   obtain ⟨g4, cap4, hv4, hml4, hget4⟩ := Bn r3_11
   obtain ⟨l5, rfl⟩ := r3_12.is_list
   obtain ⟨g5, cap5, hv5, hml5, hget5⟩ := Bn r3_12
   refine Ae (Dc [(0, ptr p), (1, .slice g l.length cap), (4, .int .i64 (i1 : Int)), (5, ptr bx)] ⟨V, V, V, V, trivial⟩ ?_)
   obtain ⟨x, hxx⟩ : ∃ x, x = x1 := ⟨_, rfl⟩
   obtain ⟨Ob, hOb⟩ : ∃ Ob, Ob = O1 := ⟨_, rfl⟩
   subst hxx hOb
   have h0 := h
   clear h
   have hu := KU hub
   refine Af (Af (Aa (Ac V V (Aj call135 V V (Ph hx1 (Lq hu)) ?_ Be))))
   rintro _ w1 ⟨rfl, O1, fd, hx2⟩
   refine Ae (AK V (fun ht => ?_) (fun hf => A_ fun a ha => Ad ?_))
   · have hC : ¬ (x.2 = true ∨ most < x.1.nest + 1 ∨ long < x.1.b.length) := by simpa only [Bool.not_eq_true', decide_eq_false_iff_not] using ht
     rw [decide_eq_false hC] at hx2
     have h := XS.start (r := [a3_0, a3_1, a3_2, a3_3, a3_4, a3_5, a3_6, a3_7, a3_8, a3_9, a3_10, (.list l4), (.list l5), a3_13, a3_14, a3_15, a3_16]) hx2 (FN hu)
     obtain ⟨Od, hOd⟩ : ∃ Od, Od = O1 := ⟨_, rfl⟩
     obtain ⟨wd, hwd⟩ : ∃ wd, wd = w1 := ⟨_, rfl⟩
     subst hOd hwd
     refine Af (Aa (Ac V V (Ab V (Id _ _ _) V (Ai V (Ap (f := .int) Cj r3_0 (h.st.at_ hSx hltx (hAx.sub 0 1))) V (Aj call139 V V (h.call Ei r3_0) ?_ Be)))))
     rintro _ w1 ⟨rfl, O1, x1, h⟩
     refine Ae ?_
     refine Af (Aa (Ac V V (Ab V (HX _ _ _) V (Ai V (Ap (f := .str) Cc r3_1 (h.st.at_ hSx hltx (hAx.sub 1 1))) V (Aj call136 V V (h.call DL r3_1) ?_ Be)))))
     rintro _ w1 ⟨rfl, O1, x1, h⟩
     refine Ae ?_
     refine Af (Aa (Ac V V (Ab V (Ib _ _ _) V (Ai V (Ap (f := .str) Cc r3_2 (h.st.at_ hSx hltx (hAx.sub 2 1))) V (Aj call136 V V (h.call DL r3_2) ?_ Be)))))
     rintro _ w1 ⟨rfl, O1, x1, h⟩
     refine Ae ?_
     refine Af (Aa (Ac V V (Ab V (HZ _ _ _) V (Ai V (Ap (f := .list (.st .part)) J2 r3_3 (h.st.at_ hSx hltx (hAx.sub 3 1))) V (Aj call244 V V (h.call PZ r3_3) ?_ Be)))))
     rintro _ w1 ⟨rfl, O1, x1, h⟩
     refine Ae ?_
     refine Af (Aa (Ac V V (Ab V (HL _ _ _) V (Ai V (Ap (f := .list (.st .part)) J2 r3_4 (h.st.at_ hSx hltx (hAx.sub 4 1))) V (Aj call244 V V (h.call PZ r3_4) ?_ Be)))))
     rintro _ w1 ⟨rfl, O1, x1, h⟩
     refine Ae ?_
     refine Af (Aa (Ac V V (Ab V (HN _ _ _) V (Ai V (Ap (f := .bool) Dp r3_5 (h.st.at_ hSx hltx (hAx.sub 5 1))) V (Aj call138 V V (h.call Jg r3_5) ?_ Be)))))
     rintro _ w1 ⟨rfl, O1, x1, h⟩
     refine Ae ?_
     refine Af (Aa (Ac V V (Ab V (Ic _ _ _) V (Ai V (Ap (f := .st .expr) BY r3_6 (h.st.at_ hSx hltx (hAx.sub 6 16))) V (Aj call144 V V (h.call GQ r3_6) ?_ Be)))))
     rintro _ w1 ⟨rfl, O1, x1, h⟩
     refine Ae ?_
     refine Af (Aa (Ac V V (Ab V (HB _ _ _) V (Ai V (Ap (f := .st .expr) BY r3_7 (h.st.at_ hSx hltx (hAx.sub 22 16))) V (Aj call144 V V (h.call GQ r3_7) ?_ Be)))))
     rintro _ w1 ⟨rfl, O1, x1, h⟩
     refine Ae ?_
     refine Af (Aa (Ac V V (Ab V (HM _ _ _) V (Ai V (Ap (f := .st .type) D9 r3_8 (h.st.at_ hSx hltx (hAx.sub 38 5))) V (Aj call201 V V (h.call NS r3_8) ?_ Be)))))
     rintro _ w1 ⟨rfl, O1, x1, h⟩
     refine Ae ?_
     refine Af (Aa (Ac V V (Ab V (Ht _ _ _) V (Ai V (Ap (f := .list (.st .sort)) J1 r3_9 (h.st.at_ hSx hltx (hAx.sub 43 1))) V (Aj call245 V V (h.call Qn r3_9) ?_ Be)))))
     rintro _ w1 ⟨rfl, O1, x1, h⟩
     refine Ae ?_
     refine Af (Aa (Ac V V (Ab V (Gb _ _ _) V (Ai V (Ap (f := .list (.st .param)) GT r3_10 (h.st.at_ hSx hltx (hAx.sub 44 1))) V (Aj call199 V V (h.call (Qf (fun t' ht => IH t'.wt (Nat.lt_trans ht (De (by simp) hw2 hN)) t' (Nat.le_refl _))) r3_10) ?_ Be)))))
     rintro _ w1 ⟨rfl, O1, x1, h⟩
     refine Ae ?_
     refine Af (Aa (Ac V V (Ab V (DB _ _ _) V (Ai V (AR hv4 Ky r3_11 (h.st.at_ hSx hltx (hAx.sub 45 1))) V (AE V (Ay underlying69) V (Aj call137 V V h.len ?_ Be))))))
     rintro _ w1 ⟨rfl, O1, x1, h⟩
     refine Ae ?_
     refine Af (Af (Aa (Ah V V (Ae ?_))))
     refine A1 (AW (ι := Nat × (Nat → Prop) × XW × World) (fun i => [(0, ptr p), (1, .slice g l.length cap), (4, .int .i64 (i1 : Int)), (5, ptr bx), (6, .int .i64 (i.1 : Int))])
      (fun i w' => w' = i.2.2.2 ∧ i.1 ≤ l4.length ∧ XS wb (plus w0 S bx) p most long Od wd (l4.drop i.1 ++ ((.list l5) :: a3_13 :: a3_14 :: a3_15 :: a3_16 :: [])) (BQ most long [a3_0, a3_1, a3_2, a3_3, a3_4, a3_5, a3_6, a3_7, a3_8, a3_9, a3_10, (.list l4), (.list l5), a3_13, a3_14, a3_15, a3_16] ({ x.1 with nest := x.1.nest + 1 }, false)) i.2.1 w' i.2.2.1) (fun i => l4.length - i.1) (0, O1, x1, w1) ⟨V, V, V, V, V, trivial⟩ ⟨rfl, Nat.zero_le _, h⟩ ?_)
     clear h
     rintro ⟨i6, O1, x1, _⟩ w1 ⟨rfl, hi, h⟩
     simp only at hi h ⊢
     refine Af (Af (Aa (Ac V V (Ab V (DB _ _ _) V (Ai V (AR hv4 Ky r3_11 (h.st.at_ hSx hltx (hAx.sub 45 1))) V (AE V (Ay underlying69) V (Al V V (Bh (c := decide (i6 < l4.length)) (decide_eq_decide.2 Int.ofNat_lt.symm)) V (Ae (AK V (fun ht => A_ fun a ha => Ad ?_) (fun hf => AQ fun a ha => Aq (Aq (A3 (Ad ?_)))))))))))))
     · have hil : i6 < l4.length := of_decide_eq_true ht
       obtain ⟨t7, hti7⟩ : ∃ t, l4[i6]? = some t := ⟨_, List.getElem?_eq_getElem hil⟩
       obtain ⟨b7, o7, ds7, hix7, hS7, hlt7, hA7, hr7⟩ := hget4 i6 t7 hti7
       have hw7 := B5 (List.mem_of_getElem? hti7)
       replace h := h.pop hti7
       refine A8 ha (Af (A1 ?_))
       obtain ⟨fl8, rfl, hlen8, hF8⟩ := hr7.st_inv
       obtain ⟨a8_0, fl8, rfl, r8_0, hF8⟩ := hF8.cons_inv
       obtain ⟨a8_1, fl8, rfl, r8_1, hF8⟩ := hF8.cons_inv
       obtain rfl := hF8.nil_inv
       simp only [Nat.zero_add, Ty.size, SN.size] at r8_0 r8_1
       replace h := h.flat rfl
       refine Af (Aa (Ac V V (Ab V (DB _ _ _) V (Ai V (AR hv4 Ky r3_11 (h.st.at_ hSx hltx (hAx.sub 45 1))) V (Ac V V (A0 V V (hix7 _ underlying69 Fj V) V (Ab V (Gk _ _ _) V (Ai V (Ap (f := .st .expr) BY r8_0 (h.st.at_ hS7 hlt7 (hA7.sub 0 16))) V (Aj call144 V V (h.call GQ r8_0) ?_ Be)))))))))
       rintro _ w1 ⟨rfl, O1, x1, h⟩
       refine Ae ?_
       refine Aa (Ac V V (Ab V (DB _ _ _) V (Ai V (AR hv4 Ky r3_11 (h.st.at_ hSx hltx (hAx.sub 45 1))) V (Ac V V (A0 V V (hix7 _ underlying69 Fj V) V (Ab V (Fv _ _ _) V (Ai V (Ap (f := .list (.st .sort)) J1 r8_1 (h.st.at_ hS7 hlt7 (hA7.sub 16 1))) V (Aj call245 V V (h.call Qn r8_1) ?_ Be))))))))
       rintro _ w1 ⟨rfl, O1, x1, h⟩
       refine A2 fun a ha => Az (Ad ?_)
       refine A8 ha (Aa (Ac V V (Al V V V V (Ah V V (A2 fun a ha => Ad ?_)))))
       exact ⟨(i6 + 1, O1, x1, w1), ha.weak ⟨rfl, rfl, rfl, rfl, congrArg some (AS (BS hil hml4)), trivial⟩, ⟨rfl, hil, h⟩, Nat.sub_lt_sub_left hil (Nat.lt_succ_self i6)⟩
     · have hend : i6 = l4.length := Nat.le_antisymm hi (Nat.le_of_not_lt (of_decide_eq_false hf))
       replace h := h.popped hend
       refine A8 ha ?_
       refine Af (Aa (Ac V V (Ab V (Dn _ _ _) V (Ai V (AR hv5 J3 r3_12 (h.st.at_ hSx hltx (hAx.sub 46 1))) V (AE V (Ay underlying70) V (Aj call137 V V h.len ?_ Be))))))
       rintro _ w1 ⟨rfl, O1, x1, h⟩
       refine Ae ?_
       refine Af (Af (Aa (Ah V V (Ae ?_))))
       refine A1 (AW (ι := Nat × (Nat → Prop) × XW × World) (fun i => [(0, ptr p), (1, .slice g l.length cap), (4, .int .i64 (i1 : Int)), (5, ptr bx), (7, .int .i64 (i.1 : Int))])
        (fun i w' => w' = i.2.2.2 ∧ i.1 ≤ l5.length ∧ XS wb (plus w0 S bx) p most long Od wd (l5.drop i.1 ++ (a3_13 :: a3_14 :: a3_15 :: a3_16 :: [])) (BQ most long [a3_0, a3_1, a3_2, a3_3, a3_4, a3_5, a3_6, a3_7, a3_8, a3_9, a3_10, (.list l4), (.list l5), a3_13, a3_14, a3_15, a3_16] ({ x.1 with nest := x.1.nest + 1 }, false)) i.2.1 w' i.2.2.1) (fun i => l5.length - i.1) (0, O1, x1, w1) ⟨V, V, V, V, V, trivial⟩ ⟨rfl, Nat.zero_le _, h⟩ ?_)
       clear h
       rintro ⟨i9, O1, x1, _⟩ w1 ⟨rfl, hi, h⟩
       simp only at hi h ⊢
       refine Af (Af (Aa (Ac V V (Ab V (Dn _ _ _) V (Ai V (AR hv5 J3 r3_12 (h.st.at_ hSx hltx (hAx.sub 46 1))) V (AE V (Ay underlying70) V (Al V V (Bh (c := decide (i9 < l5.length)) (decide_eq_decide.2 Int.ofNat_lt.symm)) V (Ae (AK V (fun ht => A_ fun a ha => Ad ?_) (fun hf => AQ fun a ha => Aq (Aq (A3 (Ad ?_)))))))))))))
       · have hil : i9 < l5.length := of_decide_eq_true ht
         obtain ⟨t10, hti10⟩ : ∃ t, l5[i9]? = some t := ⟨_, List.getElem?_eq_getElem hil⟩
         obtain ⟨b10, o10, ds10, hix10, hS10, hlt10, hA10, hr10⟩ := hget5 i9 t10 hti10
         have hw10 := B5 (List.mem_of_getElem? hti10)
         replace h := h.pop hti10
         refine A8 ha (Af (A1 ?_))
         obtain ⟨fl11, rfl, hlen11, hF11⟩ := hr10.st_inv
         obtain ⟨a11_0, fl11, rfl, r11_0, hF11⟩ := hF11.cons_inv
         obtain ⟨a11_1, fl11, rfl, r11_1, hF11⟩ := hF11.cons_inv
         obtain rfl := hF11.nil_inv
         simp only [Nat.zero_add, Ty.size] at r11_0 r11_1
         obtain ⟨l12, rfl⟩ := r11_0.is_list
         obtain ⟨g12, cap12, hv12, hml12, hget12⟩ := Bn r11_0
         replace h := h.flat rfl
         refine Af (Aa (Ac V V (Ab V (Dn _ _ _) V (Ai V (AR hv5 J3 r3_12 (h.st.at_ hSx hltx (hAx.sub 46 1))) V (Ac V V (A0 V V (hix10 _ underlying70 E7 V) V (Ab V (DX _ _ _) V (Ai V (AR hv12 Hp r11_0 (h.st.at_ hS10 hlt10 (hA10.sub 0 1))) V (AE V (Ay underlying262) V (Aj call137 V V h.len ?_ Be))))))))))
         rintro _ w1 ⟨rfl, O1, x1, h⟩
         refine Ae ?_
         refine Af (Af (Aa (Ah V V (Ae ?_))))
         refine A1 (AW (ι := Nat × (Nat → Prop) × XW × World) (fun i => [(0, ptr p), (1, .slice g l.length cap), (4, .int .i64 (i1 : Int)), (5, ptr bx), (7, .int .i64 (i9 : Int)), (8, .int .i64 (i.1 : Int))])
          (fun i w' => w' = i.2.2.2 ∧ i.1 ≤ l12.length ∧ XS wb (plus w0 S bx) p most long Od wd (l12.drop i.1 ++ (a11_1 :: (l5.drop (i9 + 1) ++ (a3_13 :: a3_14 :: a3_15 :: a3_16 :: [])))) (BQ most long [a3_0, a3_1, a3_2, a3_3, a3_4, a3_5, a3_6, a3_7, a3_8, a3_9, a3_10, (.list l4), (.list l5), a3_13, a3_14, a3_15, a3_16] ({ x.1 with nest := x.1.nest + 1 }, false)) i.2.1 w' i.2.2.1) (fun i => l12.length - i.1) (0, O1, x1, w1) ⟨V, V, V, V, V, V, trivial⟩ ⟨rfl, Nat.zero_le _, h⟩ ?_)
         clear h
         rintro ⟨i13, O1, x1, _⟩ w1 ⟨rfl, hi, h⟩
         simp only at hi h ⊢
         refine Af (Af (Aa (Ac V V (Ab V (Dn _ _ _) V (Ai V (AR hv5 J3 r3_12 (h.st.at_ hSx hltx (hAx.sub 46 1))) V (Ac V V (A0 V V (hix10 _ underlying70 E7 V) V (Ab V (DX _ _ _) V (Ai V (AR hv12 Hp r11_0 (h.st.at_ hS10 hlt10 (hA10.sub 0 1))) V (AE V (Ay underlying262) V (Al V V (Bh (c := decide (i13 < l12.length)) (decide_eq_decide.2 Int.ofNat_lt.symm)) V (Ae (AK V (fun ht => A_ fun a ha => Ad ?_) (fun hf => AQ fun a ha => Aq (Aq (A3 (Ad ?_)))))))))))))))))
         · have hil : i13 < l12.length := of_decide_eq_true ht
           obtain ⟨t14, hti14⟩ : ∃ t, l12[i13]? = some t := ⟨_, List.getElem?_eq_getElem hil⟩
           obtain ⟨b14, o14, ds14, hix14, hS14, hlt14, hA14, hr14⟩ := hget12 i13 t14 hti14
           have hw14 := B5 (List.mem_of_getElem? hti14)
           replace h := h.pop hti14
           refine A8 ha (Af (A1 ?_))
           refine Aa (Ac V V (Ab V (Dn _ _ _) V (Ai V (AR hv5 J3 r3_12 (h.st.at_ hSx hltx (hAx.sub 46 1))) V (Ac V V (A0 V V (hix10 _ underlying70 E7 V) V (Ab V (DX _ _ _) V (Ai V (AR hv12 Hp r11_0 (h.st.at_ hS10 hlt10 (hA10.sub 0 1))) V (Ac V V (A0 V V (hix14 _ underlying262 Cj V) V (Ai V (Ap (f := .int) Cj hr14 (h.st.at_ hS14 hlt14 hA14)) V (Aj call139 V V (h.call Ei hr14) ?_ Be)))))))))))
           rintro _ w1 ⟨rfl, O1, x1, h⟩
           refine A2 fun a ha => Az (Ad ?_)
           refine A8 ha (Aa (Ac V V (Al V V V V (Ah V V (A2 fun a ha => Ad ?_)))))
           exact ⟨(i13 + 1, O1, x1, w1), ha.weak ⟨rfl, rfl, rfl, rfl, rfl, congrArg some (AS (BS hil hml12)), trivial⟩, ⟨rfl, hil, h⟩, Nat.sub_lt_sub_left hil (Nat.lt_succ_self i13)⟩
         · have hend : i13 = l12.length := Nat.le_antisymm hi (Nat.le_of_not_lt (of_decide_eq_false hf))
           replace h := h.popped hend
           refine A8 ha ?_
           refine Aa (Ac V V (Ab V (Dn _ _ _) V (Ai V (AR hv5 J3 r3_12 (h.st.at_ hSx hltx (hAx.sub 46 1))) V (Ac V V (A0 V V (hix10 _ underlying70 E7 V) V (Ab V (FU _ _ _) V (Ai V (Ap (f := .list (.st .instr)) Dt r11_1 (h.st.at_ hS10 hlt10 (hA10.sub 1 1))) V (Aj call200 V V (h.call (IH _ (Nat.lt_trans (De (by simp) hw10 (Nat.le_refl _)) (De (by simp) hw2 hN)) _ (Nat.le_refl _)) r11_1) ?_ Be))))))))
           rintro _ w1 ⟨rfl, O1, x1, h⟩
           refine A2 fun a ha => Az (Ad ?_)
           refine A8 ha (Aa (Ac V V (Al V V V V (Ah V V (A2 fun a ha => Ad ?_)))))
           exact ⟨(i9 + 1, O1, x1, w1), ha.weak ⟨rfl, rfl, rfl, rfl, congrArg some (AS (BS hil hml5)), trivial⟩, ⟨rfl, hil, h⟩, Nat.sub_lt_sub_left hil (Nat.lt_succ_self i9)⟩
       · have hend : i9 = l5.length := Nat.le_antisymm hi (Nat.le_of_not_lt (of_decide_eq_false hf))
         replace h := h.popped hend
         refine A8 ha ?_
         refine Af (Aa (Ac V V (Ab V (FE _ _ _) V (Ai V (Ap (f := .list (.st .instr)) Dt r3_13 (h.st.at_ hSx hltx (hAx.sub 47 1))) V (Aj call200 V V (h.call (IH _ (De (by simp) hw2 hN) _ (Nat.le_refl _)) r3_13) ?_ Be)))))
         rintro _ w1 ⟨rfl, O1, x1, h⟩
         refine Ae ?_
         refine Af (Aa (Ac V V (Ab V (FY _ _ _) V (Ai V (Ap (f := .list (.st .instr)) Dt r3_14 (h.st.at_ hSx hltx (hAx.sub 48 1))) V (Aj call200 V V (h.call (IH _ (De (by simp) hw2 hN) _ (Nat.le_refl _)) r3_14) ?_ Be)))))
         rintro _ w1 ⟨rfl, O1, x1, h⟩
         refine Ae ?_
         refine Af (Aa (Ac V V (Ab V (Gi _ _ _) V (Ai V (Ap (f := .int) Cj r3_15 (h.st.at_ hSx hltx (hAx.sub 49 1))) V (Aj call139 V V (h.call Ei r3_15) ?_ Be)))))
         rintro _ w1 ⟨rfl, O1, x1, h⟩
         refine Ae ?_
         refine Aa (Ac V V (Ab V (FM _ _ _) V (Ai V (Ap (f := .int) Cj r3_16 (h.st.at_ hSx hltx (hAx.sub 50 1))) V (Aj call139 V V (h.call Ei r3_16) ?_ Be))))
         rintro _ w1 ⟨rfl, O1, x1, h⟩
         refine A2 fun a ha => Ad ?_
         obtain ⟨ff, hs⟩ := h.fin
         have hnn : (BQ most long [a3_0, a3_1, a3_2, a3_3, a3_4, a3_5, a3_6, a3_7, a3_8, a3_9, a3_10, (.list l4), (.list l5), a3_13, a3_14, a3_15, a3_16] ({ x.1 with nest := x.1.nest + 1 }, false)).1.nest = x.1.nest + 1 := (Ef (most := most) (long := long) [a3_0, a3_1, a3_2, a3_3, a3_4, a3_5, a3_6, a3_7, a3_8, a3_9, a3_10, (.list l4), (.list l5), a3_13, a3_14, a3_15, a3_16] ({ x.1 with nest := x.1.nest + 1 }, false) (FN hu)).2
         have e := Ix (most := most) (long := long) (l := [a3_0, a3_1, a3_2, a3_3, a3_4, a3_5, a3_6, a3_7, a3_8, a3_9, a3_10, (.list l4), (.list l5), a3_13, a3_14, a3_15, a3_16]) (sn := .instr) (x := x) rfl hC
         clear h
         generalize BQ most long [a3_0, a3_1, a3_2, a3_3, a3_4, a3_5, a3_6, a3_7, a3_8, a3_9, a3_10, (.list l4), (.list l5), a3_13, a3_14, a3_15, a3_16] ({ x.1 with nest := x.1.nest + 1 }, false) = tgt at hs hnn e
         obtain ⟨_, hc2, _, _, _, setN, _⟩ := hs.flags
         obtain ⟨w2, O2, hstu, fu, hu2⟩ := setN (tgt.1.nest - 1)
         refine A8 ha (Aa (Ac V V (As V V (Ab V (Cw _ _ _) V (Ai V (A4 Hm hc2) V (Al V V (HY hnn (Ft hu)) V (As V V (Ab V (Cw _ _ _) V (An V V hstu (A2 fun a ha => Az (Ad ?_)))))))))))
         have h := h0.next ((fb.drop (fun _ h => h.elim)).trans (fd.trans (ff.trans fu))) (by rw [e]; exact h0.st.unbase fb hu2)
         clear e
         obtain ⟨x1, hx1e⟩ : ∃ x1, x1 = CB most long (.agg .instr [a3_0, a3_1, a3_2, a3_3, a3_4, a3_5, a3_6, a3_7, a3_8, a3_9, a3_10, (.list l4), (.list l5), a3_13, a3_14, a3_15, a3_16]) x := ⟨_, rfl⟩
         rw [← hx1e] at h
         obtain ⟨O1, hO1e⟩ : ∃ O1, O1 = O2 := ⟨_, rfl⟩
         obtain ⟨w1, hw1e⟩ : ∃ w1, w1 = w2 := ⟨_, rfl⟩
         rw [← hO1e, ← hw1e] at h
         rw [← hw1e]
         refine A8 ha (Aa (Ac V V (Al V V V V (Ah V V (A2 fun a ha => Ad ?_)))))
         exact ⟨(i1 + 1, O1, x1, w1), ha.weak ⟨rfl, rfl, congrArg some (AS (BS hil hml)), trivial⟩, ⟨rfl, hil, h⟩, Nat.sub_lt_sub_left hil (Nat.lt_succ_self i1)⟩
   · have hC : x.2 = true ∨ most < x.1.nest + 1 ∨ long < x.1.b.length := by simpa only [Bool.not_eq_false', decide_eq_true_eq] using hf
     rw [decide_eq_true hC] at hx2
     have hnn : x.1.nest + 1 = x.1.nest + 1 := rfl
     obtain ⟨_, hc2, _, _, _, setN, _⟩ := hx2.flags
     simp only at hc2 setN
     obtain ⟨w2, O2, hstu, fu, hu2⟩ := setN (x.1.nest + 1 - 1)
     refine A8 ha (Aa (Ac V V (As V V (Ab V (Cw _ _ _) V (Ai V (A4 Hm hc2) V (Al V V (HY hnn (Ft hu)) V (As V V (Ab V (Cw _ _ _) V (An V V hstu (A2 fun a ha => Az (Ad ?_)))))))))))
     have e := Ip (most := most) (long := long) (l := [a3_0, a3_1, a3_2, a3_3, a3_4, a3_5, a3_6, a3_7, a3_8, a3_9, a3_10, (.list l4), (.list l5), a3_13, a3_14, a3_15, a3_16]) (sn := .instr) (x := x) rfl hC
     have h := h0.next ((fb.drop (fun _ h => h.elim)).trans (fd.trans fu)) (by rw [e]; exact h0.st.unbase fb hu2)
     clear e
     obtain ⟨x1, hx1e⟩ : ∃ x1, x1 = CB most long (.agg .instr [a3_0, a3_1, a3_2, a3_3, a3_4, a3_5, a3_6, a3_7, a3_8, a3_9, a3_10, (.list l4), (.list l5), a3_13, a3_14, a3_15, a3_16]) x := ⟨_, rfl⟩
     rw [← hx1e] at h
     obtain ⟨O1, hO1e⟩ : ∃ O1, O1 = O2 := ⟨_, rfl⟩
     obtain ⟨w1, hw1e⟩ : ∃ w1, w1 = w2 := ⟨_, rfl⟩
     rw [← hO1e, ← hw1e] at h
     rw [← hw1e]
     refine A8 ha (Aa (Ac V V (Al V V V V (Ah V V (A2 fun a ha => Ad ?_)))))
     exact ⟨(i1 + 1, O1, x1, w1), ha.weak ⟨rfl, rfl, congrArg some (AS (BS hil hml)), trivial⟩, ⟨rfl, hil, h⟩, Nat.sub_lt_sub_left hil (Nat.lt_succ_self i1)⟩
 · have hend : i1 = l.length := Nat.le_antisymm hi (Nat.le_of_not_lt (of_decide_eq_false hf))
   replace h := h.popped hend
   obtain ⟨ff, hs⟩ := h.fin
   simp only [BQ] at hs
   exact AV V ha ⟨rfl, O1, ff, hs⟩
theorem Lu {t : T} : E4 200 (.list (.st .instr)) t := RE t.wt t (Nat.le_refl _)
theorem MO {t : T} : E4 199 (.list (.st .param)) t := Qf (fun _ _ => Lu)
theorem Rv {t : T} : E4 140 (.list (.st .template)) t := by
 intro w0 S p most long x O w cs hr hx hu
 obtain ⟨l, rfl⟩ := hr.is_list
 obtain ⟨g, cap, hv, hml, hget⟩ := Bn hr
 rw [hv]
 have h := XS.start (r := [.list l]) hx (DR hu)
 obtain ⟨Z, hz, hzl⟩ : ∃ Z : List Value, (∀ w, (zeroValue 74).run prog w = .ok (.agg Z.toArray) w) ∧ Z.length = 12 := ⟨_, zeroValue74, rfl⟩
 refine AB 68 func140 V V V ?_
 refine Af (Aa (Ac V V (Ac V V (AE V (Ay underlying27) V (Aj call137 V V h.len ?_ Be)))))
 rintro _ w1 ⟨rfl, O1, x1, h⟩
 refine Ae ?_
 refine Af (Aa (Ah V V (Ae ?_)))
 refine A1 (AW (ι := Nat × (Nat → Prop) × XW × World) (fun i => [(0, ptr p), (1, .slice g l.length cap), (4, .int .i64 (i.1 : Int))])
  (fun i w' => w' = i.2.2.2 ∧ i.1 ≤ l.length ∧ XS w0 S p most long O w (l.drop i.1 ++ ([])) (BQ most long [.list l] x) i.2.1 w' i.2.2.1) (fun i => l.length - i.1) (0, O1, x1, w1) ⟨V, V, V, trivial⟩ ⟨rfl, Nat.zero_le _, h⟩ ?_)
 clear h
 rintro ⟨i15, O1, x1, _⟩ w1 ⟨rfl, hi, h⟩
 simp only at hi h ⊢
 refine Af (Af (Aa (Ac V V (Ac V V (AE V (Ay underlying27) V (Al V V (Bh (c := decide (i15 < l.length)) (decide_eq_decide.2 Int.ofNat_lt.symm)) V (Ae (AK V (fun ht => A_ fun a ha => Ad ?_) (fun hf => AQ fun a ha => Aq (Aq (A3 ?_)))))))))))
 · have hil : i15 < l.length := of_decide_eq_true ht
   obtain ⟨t16, hti16⟩ : ∃ t, l[i15]? = some t := ⟨_, List.getElem?_eq_getElem hil⟩
   obtain ⟨b16, o16, ds16, hix16, hS16, hlt16, hA16, hr16⟩ := hget i15 t16 hti16
   have hw16 := B5 (List.mem_of_getElem? hti16)
   replace h := h.pop hti16
   refine A8 ha (Af (A1 ?_))
   have hone := Rep.one _ _ _ hr16
   obtain ⟨wb, hstb, ab, fb⟩ := Dd (w := w1) (z := .agg Z.toArray) (zs := Z) Hd rfl hzl hone.1 hone.2
   refine Af (Aa (Ac V V (Ac V V (A0 V V (hix16 _ underlying27 Hd V) V (Ai V (Ap (f := .st .template) Hd hr16 (h.st.at_ hS16 hlt16 hA16)) V (AO (hz _) V (An V V hstb ?_)))))))
   have hx1 := h.st.rebase fb (Nat.le_refl _) ab.lt
   have hrb := hr16.plus h.st fb w1.heap.size
   have hub := h.hd
   generalize w1.heap.size = bx at ab hx1 hrb ⊢
   have hAx := ab.all
   have hltx := ab.lt
   have hSx : plus w0 S bx bx := .inr rfl
   obtain ⟨fl17, rfl, hlen17, hF17⟩ := hrb.st_inv
   obtain ⟨a17_0, fl17, rfl, r17_0, hF17⟩ := hF17.cons_inv
   obtain ⟨a17_1, fl17, rfl, r17_1, hF17⟩ := hF17.cons_inv
   obtain ⟨a17_2, fl17, rfl, r17_2, hF17⟩ := hF17.cons_inv
   obtain ⟨a17_3, fl17, rfl, r17_3, hF17⟩ := hF17.cons_inv
   obtain ⟨a17_4, fl17, rfl, r17_4, hF17⟩ := hF17.cons_inv
   obtain ⟨a17_5, fl17, rfl, r17_5, hF17⟩ := hF17.cons_inv
   obtain ⟨a17_6, fl17, rfl, r17_6, hF17⟩ := hF17.cons_inv
   obtain ⟨a17_7, fl17, rfl, r17_7, hF17⟩ := hF17.cons_inv
   obtain ⟨a17_8, fl17, rfl, r17_8, hF17⟩ := hF17.cons_inv
   obtain ⟨a17_9, fl17, rfl, r17_9, hF17⟩ := hF17.cons_inv
   obtain ⟨a17_10, fl17, rfl, r17_10, hF17⟩ := hF17.cons_inv
   obtain ⟨a17_11, fl17, rfl, r17_11, hF17⟩ := hF17.cons_inv
   obtain rfl := hF17.nil_inv
   simp only [Nat.zero_add, Nat.reduceAdd, Ty.size] at r17_0 r17_1 r17_2 r17_3 r17_4 r17_5 r17_6 r17_7 r17_8 r17_9 r17_10 r17_11
   refine Ae (Dc [(0, ptr p), (1, .slice g l.length cap), (4, .int .i64 (i15 : Int)), (5, ptr bx)] ⟨V, V, V, V, trivial⟩ ?_)
   obtain ⟨x, hxx⟩ : ∃ x, x = x1 := ⟨_, rfl⟩
   obtain ⟨Ob, hOb⟩ : ∃ Ob, Ob = O1 := ⟨_, rfl⟩
   subst hxx hOb
   have h0 := h
   clear h
   have h := XS.start (r := [a17_0, a17_1, a17_2, a17_3, a17_4, a17_5, a17_6, a17_7, a17_8, a17_9, a17_10, a17_11]) hx1 (Gn hub)
   refine Af (Aa (Ac V V (Ab V (HQ _ _ _) V (Ai V (Ap (f := .list (.st .expr)) Eh r17_0 (h.st.at_ hSx hltx (hAx.sub 0 1))) V (Aj call143 V V (h.call Mw r17_0) ?_ Be)))))
   rintro _ w1 ⟨rfl, O1, x1, h⟩
   refine Ae ?_
   refine Af (Aa (Ac V V (Ab V (HD _ _ _) V (Ai V (Ap (f := .str) Cc r17_1 (h.st.at_ hSx hltx (hAx.sub 1 1))) V (Aj call136 V V (h.call DL r17_1) ?_ Be)))))
   rintro _ w1 ⟨rfl, O1, x1, h⟩
   refine Ae ?_
   refine Af (Aa (Ac V V (Ab V (HE _ _ _) V (Ai V (Ap (f := .list (.str)) D_ r17_2 (h.st.at_ hSx hltx (hAx.sub 2 1))) V (Aj call145 V V (h.call PJ r17_2) ?_ Be)))))
   rintro _ w1 ⟨rfl, O1, x1, h⟩
   refine Ae ?_
   refine Af (Aa (Ac V V (Ab V (Hs _ _ _) V (Ai V (Ap (f := .bool) Dp r17_3 (h.st.at_ hSx hltx (hAx.sub 3 1))) V (Aj call138 V V (h.call Jg r17_3) ?_ Be)))))
   rintro _ w1 ⟨rfl, O1, x1, h⟩
   refine Ae ?_
   refine Af (Aa (Ac V V (Ab V (Hu _ _ _) V (Ai V (Ap (f := .str) Cc r17_4 (h.st.at_ hSx hltx (hAx.sub 4 1))) V (Aj call136 V V (h.call DL r17_4) ?_ Be)))))
   rintro _ w1 ⟨rfl, O1, x1, h⟩
   refine Ae ?_
   refine Af (Aa (Ac V V (Ab V (HC _ _ _) V (Ai V (Ap (f := .list (.st .param)) GT r17_5 (h.st.at_ hSx hltx (hAx.sub 5 1))) V (Aj call199 V V (h.call MO r17_5) ?_ Be)))))
   rintro _ w1 ⟨rfl, O1, x1, h⟩
   refine Ae ?_
   refine Af (Aa (Ac V V (Ab V (Hx _ _ _) V (Ai V (Ap (f := .list (.st .instr)) Dt r17_6 (h.st.at_ hSx hltx (hAx.sub 6 1))) V (Aj call200 V V (h.call Lu r17_6) ?_ Be)))))
   rintro _ w1 ⟨rfl, O1, x1, h⟩
   refine Ae ?_
   refine Af (Aa (Ac V V (Ab V (HU _ _ _) V (Ai V (Ap (f := .str) Cc r17_7 (h.st.at_ hSx hltx (hAx.sub 7 1))) V (Aj call136 V V (h.call DL r17_7) ?_ Be)))))
   rintro _ w1 ⟨rfl, O1, x1, h⟩
   refine Ae ?_
   refine Af (Aa (Ac V V (Ab V (H_ _ _ _) V (Ai V (Ap (f := .int) Cj r17_8 (h.st.at_ hSx hltx (hAx.sub 8 1))) V (Aj call139 V V (h.call Ei r17_8) ?_ Be)))))
   rintro _ w1 ⟨rfl, O1, x1, h⟩
   refine Ae ?_
   refine Af (Aa (Ac V V (Ab V (HP _ _ _) V (Ai V (Ap (f := .int) Cj r17_9 (h.st.at_ hSx hltx (hAx.sub 9 1))) V (Aj call139 V V (h.call Ei r17_9) ?_ Be)))))
   rintro _ w1 ⟨rfl, O1, x1, h⟩
   refine Ae ?_
   refine Af (Aa (Ac V V (Ab V (F_ _ _ _) V (Ai V (Ap (f := .int) Cj r17_10 (h.st.at_ hSx hltx (hAx.sub 10 1))) V (Aj call139 V V (h.call Ei r17_10) ?_ Be)))))
   rintro _ w1 ⟨rfl, O1, x1, h⟩
   refine Ae ?_
   refine Aa (Ac V V (Ab V (Gp _ _ _) V (Ai V (Ap (f := .int) Cj r17_11 (h.st.at_ hSx hltx (hAx.sub 11 1))) V (Aj call139 V V (h.call Ei r17_11) ?_ Be))))
   rintro _ w1 ⟨rfl, O1, x1, h⟩
   refine A2 fun a ha => Az (Ad ?_)
   obtain ⟨ff, hs⟩ := h.fin
   have h := h0.next ((fb.drop (fun _ h => h.elim)).trans ff) (by simp only [CB, SN.deep]; exact h0.st.unbase fb hs)
   generalize CB most long _ x = x1 at h
   refine A8 ha (Aa (Ac V V (Al V V V V (Ah V V (A2 fun a ha => Ad ?_)))))
   exact ⟨(i15 + 1, O1, x1, w1), ha.weak ⟨rfl, rfl, congrArg some (AS (BS hil hml)), trivial⟩, ⟨rfl, hil, h⟩, Nat.sub_lt_sub_left hil (Nat.lt_succ_self i15)⟩
 · have hend : i15 = l.length := Nat.le_antisymm hi (Nat.le_of_not_lt (of_decide_eq_false hf))
   replace h := h.popped hend
   obtain ⟨ff, hs⟩ := h.fin
   simp only [BQ] at hs
   exact AV V ha ⟨rfl, O1, ff, hs⟩
theorem Rb {t : T} : E4 141 (.list (.st .dfn)) t := by
 intro w0 S p most long x O w cs hr hx hu
 obtain ⟨l, rfl⟩ := hr.is_list
 obtain ⟨g, cap, hv, hml, hget⟩ := Bn hr
 rw [hv]
 have h := XS.start (r := [.list l]) hx (DR hu)
 obtain ⟨Z, hz, hzl⟩ : ∃ Z : List Value, (∀ w, (zeroValue 140).run prog w = .ok (.agg Z.toArray) w) ∧ Z.length = 27 := ⟨_, zeroValue140, rfl⟩
 refine AB 52 func141 V V V ?_
 refine Af (Aa (Ac V V (Ac V V (AE V (Ay underlying28) V (Aj call137 V V h.len ?_ Be)))))
 rintro _ w1 ⟨rfl, O1, x1, h⟩
 refine Ae ?_
 refine Af (Aa (Ah V V (Ae ?_)))
 refine A1 (AW (ι := Nat × (Nat → Prop) × XW × World) (fun i => [(0, ptr p), (1, .slice g l.length cap), (4, .int .i64 (i.1 : Int))])
  (fun i w' => w' = i.2.2.2 ∧ i.1 ≤ l.length ∧ XS w0 S p most long O w (l.drop i.1 ++ ([])) (BQ most long [.list l] x) i.2.1 w' i.2.2.1) (fun i => l.length - i.1) (0, O1, x1, w1) ⟨V, V, V, trivial⟩ ⟨rfl, Nat.zero_le _, h⟩ ?_)
 clear h
 rintro ⟨i18, O1, x1, _⟩ w1 ⟨rfl, hi, h⟩
 simp only at hi h ⊢
 refine Af (Af (Aa (Ac V V (Ac V V (AE V (Ay underlying28) V (Al V V (Bh (c := decide (i18 < l.length)) (decide_eq_decide.2 Int.ofNat_lt.symm)) V (Ae (AK V (fun ht => A_ fun a ha => Ad ?_) (fun hf => AQ fun a ha => Aq (Aq (A3 ?_)))))))))))
 · have hil : i18 < l.length := of_decide_eq_true ht
   obtain ⟨t19, hti19⟩ : ∃ t, l[i18]? = some t := ⟨_, List.getElem?_eq_getElem hil⟩
   obtain ⟨b19, o19, ds19, hix19, hS19, hlt19, hA19, hr19⟩ := hget i18 t19 hti19
   have hw19 := B5 (List.mem_of_getElem? hti19)
   replace h := h.pop hti19
   refine A8 ha (Af (A1 ?_))
   have hone := Rep.one _ _ _ hr19
   obtain ⟨wb, hstb, ab, fb⟩ := Dd (w := w1) (z := .agg Z.toArray) (zs := Z) Et rfl hzl hone.1 hone.2
   refine Af (Aa (Ac V V (Ac V V (A0 V V (hix19 _ underlying28 Et V) V (Ai V (Ap (f := .st .dfn) Et hr19 (h.st.at_ hS19 hlt19 hA19)) V (AO (hz _) V (An V V hstb ?_)))))))
   have hx1 := h.st.rebase fb (Nat.le_refl _) ab.lt
   have hrb := hr19.plus h.st fb w1.heap.size
   have hub := h.hd
   generalize w1.heap.size = bx at ab hx1 hrb ⊢
   have hAx := ab.all
   have hltx := ab.lt
   have hSx : plus w0 S bx bx := .inr rfl
   obtain ⟨fl20, rfl, hlen20, hF20⟩ := hrb.st_inv
   obtain ⟨a20_0, fl20, rfl, r20_0, hF20⟩ := hF20.cons_inv
   obtain ⟨a20_1, fl20, rfl, r20_1, hF20⟩ := hF20.cons_inv
   obtain ⟨a20_2, fl20, rfl, r20_2, hF20⟩ := hF20.cons_inv
   obtain ⟨a20_3, fl20, rfl, r20_3, hF20⟩ := hF20.cons_inv
   obtain ⟨a20_4, fl20, rfl, r20_4, hF20⟩ := hF20.cons_inv
   obtain ⟨a20_5, fl20, rfl, r20_5, hF20⟩ := hF20.cons_inv
   obtain ⟨a20_6, fl20, rfl, r20_6, hF20⟩ := hF20.cons_inv
   obtain ⟨a20_7, fl20, rfl, r20_7, hF20⟩ := hF20.cons_inv
   obtain rfl := hF20.nil_inv
   simp only [Nat.zero_add, Nat.reduceAdd, Ty.size, SN.size] at r20_0 r20_1 r20_2 r20_3 r20_4 r20_5 r20_6 r20_7
   refine Ae (Dc [(0, ptr p), (1, .slice g l.length cap), (4, .int .i64 (i18 : Int)), (5, ptr bx)] ⟨V, V, V, V, trivial⟩ ?_)
   obtain ⟨x, hxx⟩ : ∃ x, x = x1 := ⟨_, rfl⟩
   obtain ⟨Ob, hOb⟩ : ∃ Ob, Ob = O1 := ⟨_, rfl⟩
   subst hxx hOb
   have h0 := h
   clear h
   have h := XS.start (r := [a20_0, a20_1, a20_2, a20_3, a20_4, a20_5, a20_6, a20_7]) hx1 (Gn hub)
   refine Af (Aa (Ac V V (Ab V (FO _ _ _) V (Ai V (Ap (f := .str) Cc r20_0 (h.st.at_ hSx hltx (hAx.sub 0 1))) V (Aj call136 V V (h.call DL r20_0) ?_ Be)))))
   rintro _ w1 ⟨rfl, O1, x1, h⟩
   refine Ae ?_
   refine Af (Aa (Ac V V (Ab V (Gf _ _ _) V (Ai V (Ap (f := .list (.st .param)) GT r20_1 (h.st.at_ hSx hltx (hAx.sub 1 1))) V (Aj call199 V V (h.call MO r20_1) ?_ Be)))))
   rintro _ w1 ⟨rfl, O1, x1, h⟩
   refine Ae ?_
   refine Af (Aa (Ac V V (Ab V (Gc _ _ _) V (Ai V (Ap (f := .st .type) D9 r20_2 (h.st.at_ hSx hltx (hAx.sub 2 5))) V (Aj call201 V V (h.call NS r20_2) ?_ Be)))))
   rintro _ w1 ⟨rfl, O1, x1, h⟩
   refine Ae ?_
   refine Af (Aa (Ac V V (Ab V (FZ _ _ _) V (Ai V (Ap (f := .st .expr) BY r20_3 (h.st.at_ hSx hltx (hAx.sub 7 16))) V (Aj call144 V V (h.call GQ r20_3) ?_ Be)))))
   rintro _ w1 ⟨rfl, O1, x1, h⟩
   refine Ae ?_
   refine Af (Aa (Ac V V (Ab V (FS _ _ _) V (Ai V (Ap (f := .str) Cc r20_4 (h.st.at_ hSx hltx (hAx.sub 23 1))) V (Aj call136 V V (h.call DL r20_4) ?_ Be)))))
   rintro _ w1 ⟨rfl, O1, x1, h⟩
   refine Ae ?_
   refine Af (Aa (Ac V V (Ab V (Gw _ _ _) V (Ai V (Ap (f := .int) Cj r20_5 (h.st.at_ hSx hltx (hAx.sub 24 1))) V (Aj call139 V V (h.call Ei r20_5) ?_ Be)))))
   rintro _ w1 ⟨rfl, O1, x1, h⟩
   refine Ae ?_
   refine Af (Aa (Ac V V (Ab V (FA _ _ _) V (Ai V (Ap (f := .int) Cj r20_6 (h.st.at_ hSx hltx (hAx.sub 25 1))) V (Aj call139 V V (h.call Ei r20_6) ?_ Be)))))
   rintro _ w1 ⟨rfl, O1, x1, h⟩
   refine Ae ?_
   refine Aa (Ac V V (Ab V (Gu _ _ _) V (Ai V (Ap (f := .int) Cj r20_7 (h.st.at_ hSx hltx (hAx.sub 26 1))) V (Aj call139 V V (h.call Ei r20_7) ?_ Be))))
   rintro _ w1 ⟨rfl, O1, x1, h⟩
   refine A2 fun a ha => Az (Ad ?_)
   obtain ⟨ff, hs⟩ := h.fin
   have h := h0.next ((fb.drop (fun _ h => h.elim)).trans ff) (by simp only [CB, SN.deep]; exact h0.st.unbase fb hs)
   generalize CB most long _ x = x1 at h
   refine A8 ha (Aa (Ac V V (Al V V V V (Ah V V (A2 fun a ha => Ad ?_)))))
   exact ⟨(i18 + 1, O1, x1, w1), ha.weak ⟨rfl, rfl, congrArg some (AS (BS hil hml)), trivial⟩, ⟨rfl, hil, h⟩, Nat.sub_lt_sub_left hil (Nat.lt_succ_self i18)⟩
 · have hend : i18 = l.length := Nat.le_antisymm hi (Nat.le_of_not_lt (of_decide_eq_false hf))
   replace h := h.popped hend
   obtain ⟨ff, hs⟩ := h.fin
   simp only [BQ] at hs
   exact AV V ha ⟨rfl, O1, ff, hs⟩
theorem QG {t : T} : E4 142 (.list (.st .global)) t := by
 intro w0 S p most long x O w cs hr hx hu
 obtain ⟨l, rfl⟩ := hr.is_list
 obtain ⟨g, cap, hv, hml, hget⟩ := Bn hr
 rw [hv]
 have h := XS.start (r := [.list l]) hx (DR hu)
 obtain ⟨Z, hz, hzl⟩ : ∃ Z : List Value, (∀ w, (zeroValue 144).run prog w = .ok (.agg Z.toArray) w) ∧ Z.length = 29 := ⟨_, zeroValue144, rfl⟩
 refine AB 60 func142 V V V ?_
 refine Af (Aa (Ac V V (Ac V V (AE V (Ay underlying29) V (Aj call137 V V h.len ?_ Be)))))
 rintro _ w1 ⟨rfl, O1, x1, h⟩
 refine Ae ?_
 refine Af (Aa (Ah V V (Ae ?_)))
 refine A1 (AW (ι := Nat × (Nat → Prop) × XW × World) (fun i => [(0, ptr p), (1, .slice g l.length cap), (4, .int .i64 (i.1 : Int))])
  (fun i w' => w' = i.2.2.2 ∧ i.1 ≤ l.length ∧ XS w0 S p most long O w (l.drop i.1 ++ ([])) (BQ most long [.list l] x) i.2.1 w' i.2.2.1) (fun i => l.length - i.1) (0, O1, x1, w1) ⟨V, V, V, trivial⟩ ⟨rfl, Nat.zero_le _, h⟩ ?_)
 clear h
 rintro ⟨i21, O1, x1, _⟩ w1 ⟨rfl, hi, h⟩
 simp only at hi h ⊢
 refine Af (Af (Aa (Ac V V (Ac V V (AE V (Ay underlying29) V (Al V V (Bh (c := decide (i21 < l.length)) (decide_eq_decide.2 Int.ofNat_lt.symm)) V (Ae (AK V (fun ht => A_ fun a ha => Ad ?_) (fun hf => AQ fun a ha => Aq (Aq (A3 ?_)))))))))))
 · have hil : i21 < l.length := of_decide_eq_true ht
   obtain ⟨t22, hti22⟩ : ∃ t, l[i21]? = some t := ⟨_, List.getElem?_eq_getElem hil⟩
   obtain ⟨b22, o22, ds22, hix22, hS22, hlt22, hA22, hr22⟩ := hget i21 t22 hti22
   have hw22 := B5 (List.mem_of_getElem? hti22)
   replace h := h.pop hti22
   refine A8 ha (Af (A1 ?_))
   have hone := Rep.one _ _ _ hr22
   obtain ⟨wb, hstb, ab, fb⟩ := Dd (w := w1) (z := .agg Z.toArray) (zs := Z) Em rfl hzl hone.1 hone.2
   refine Af (Aa (Ac V V (Ac V V (A0 V V (hix22 _ underlying29 Em V) V (Ai V (Ap (f := .st .global) Em hr22 (h.st.at_ hS22 hlt22 hA22)) V (AO (hz _) V (An V V hstb ?_)))))))
   have hx1 := h.st.rebase fb (Nat.le_refl _) ab.lt
   have hrb := hr22.plus h.st fb w1.heap.size
   have hub := h.hd
   generalize w1.heap.size = bx at ab hx1 hrb ⊢
   have hAx := ab.all
   have hltx := ab.lt
   have hSx : plus w0 S bx bx := .inr rfl
   obtain ⟨fl23, rfl, hlen23, hF23⟩ := hrb.st_inv
   obtain ⟨a23_0, fl23, rfl, r23_0, hF23⟩ := hF23.cons_inv
   obtain ⟨a23_1, fl23, rfl, r23_1, hF23⟩ := hF23.cons_inv
   obtain ⟨a23_2, fl23, rfl, r23_2, hF23⟩ := hF23.cons_inv
   obtain ⟨a23_3, fl23, rfl, r23_3, hF23⟩ := hF23.cons_inv
   obtain ⟨a23_4, fl23, rfl, r23_4, hF23⟩ := hF23.cons_inv
   obtain ⟨a23_5, fl23, rfl, r23_5, hF23⟩ := hF23.cons_inv
   obtain ⟨a23_6, fl23, rfl, r23_6, hF23⟩ := hF23.cons_inv
   obtain ⟨a23_7, fl23, rfl, r23_7, hF23⟩ := hF23.cons_inv
   obtain ⟨a23_8, fl23, rfl, r23_8, hF23⟩ := hF23.cons_inv
   obtain ⟨a23_9, fl23, rfl, r23_9, hF23⟩ := hF23.cons_inv
   obtain rfl := hF23.nil_inv
   simp only [Nat.zero_add, Nat.reduceAdd, Ty.size, SN.size] at r23_0 r23_1 r23_2 r23_3 r23_4 r23_5 r23_6 r23_7 r23_8 r23_9
   refine Ae (Dc [(0, ptr p), (1, .slice g l.length cap), (4, .int .i64 (i21 : Int)), (5, ptr bx)] ⟨V, V, V, V, trivial⟩ ?_)
   obtain ⟨x, hxx⟩ : ∃ x, x = x1 := ⟨_, rfl⟩
   obtain ⟨Ob, hOb⟩ : ∃ Ob, Ob = O1 := ⟨_, rfl⟩
   subst hxx hOb
   have h0 := h
   clear h
   have h := XS.start (r := [a23_0, a23_1, a23_2, a23_3, a23_4, a23_5, a23_6, a23_7, a23_8, a23_9]) hx1 (Gn hub)
   refine Af (Aa (Ac V V (Ab V (FL _ _ _) V (Ai V (Ap (f := .str) Cc r23_0 (h.st.at_ hSx hltx (hAx.sub 0 1))) V (Aj call136 V V (h.call DL r23_0) ?_ Be)))))
   rintro _ w1 ⟨rfl, O1, x1, h⟩
   refine Ae ?_
   refine Af (Aa (Ac V V (Ab V (FH _ _ _) V (Ai V (Ap (f := .bool) Dp r23_1 (h.st.at_ hSx hltx (hAx.sub 1 1))) V (Aj call138 V V (h.call Jg r23_1) ?_ Be)))))
   rintro _ w1 ⟨rfl, O1, x1, h⟩
   refine Ae ?_
   refine Af (Aa (Ac V V (Ab V (FI _ _ _) V (Ai V (Ap (f := .st .type) D9 r23_2 (h.st.at_ hSx hltx (hAx.sub 2 5))) V (Aj call201 V V (h.call NS r23_2) ?_ Be)))))
   rintro _ w1 ⟨rfl, O1, x1, h⟩
   refine Ae ?_
   refine Af (Aa (Ac V V (Ab V (FF _ _ _) V (Ai V (Ap (f := .bool) Dp r23_3 (h.st.at_ hSx hltx (hAx.sub 7 1))) V (Aj call138 V V (h.call Jg r23_3) ?_ Be)))))
   rintro _ w1 ⟨rfl, O1, x1, h⟩
   refine Ae ?_
   refine Af (Aa (Ac V V (Ab V (Fw _ _ _) V (Ai V (Ap (f := .st .expr) BY r23_4 (h.st.at_ hSx hltx (hAx.sub 8 16))) V (Aj call144 V V (h.call GQ r23_4) ?_ Be)))))
   rintro _ w1 ⟨rfl, O1, x1, h⟩
   refine Ae ?_
   refine Af (Aa (Ac V V (Ab V (FV _ _ _) V (Ai V (Ap (f := .list (.st .instr)) Dt r23_5 (h.st.at_ hSx hltx (hAx.sub 24 1))) V (Aj call200 V V (h.call Lu r23_5) ?_ Be)))))
   rintro _ w1 ⟨rfl, O1, x1, h⟩
   refine Ae ?_
   refine Af (Aa (Ac V V (Ab V (FQ _ _ _) V (Ai V (Ap (f := .str) Cc r23_6 (h.st.at_ hSx hltx (hAx.sub 25 1))) V (Aj call136 V V (h.call DL r23_6) ?_ Be)))))
   rintro _ w1 ⟨rfl, O1, x1, h⟩
   refine Ae ?_
   refine Af (Aa (Ac V V (Ab V (F2 _ _ _) V (Ai V (Ap (f := .int) Cj r23_7 (h.st.at_ hSx hltx (hAx.sub 26 1))) V (Aj call139 V V (h.call Ei r23_7) ?_ Be)))))
   rintro _ w1 ⟨rfl, O1, x1, h⟩
   refine Ae ?_
   refine Af (Aa (Ac V V (Ab V (Gh _ _ _) V (Ai V (Ap (f := .int) Cj r23_8 (h.st.at_ hSx hltx (hAx.sub 27 1))) V (Aj call139 V V (h.call Ei r23_8) ?_ Be)))))
   rintro _ w1 ⟨rfl, O1, x1, h⟩
   refine Ae ?_
   refine Aa (Ac V V (Ab V (FW _ _ _) V (Ai V (Ap (f := .int) Cj r23_9 (h.st.at_ hSx hltx (hAx.sub 28 1))) V (Aj call139 V V (h.call Ei r23_9) ?_ Be))))
   rintro _ w1 ⟨rfl, O1, x1, h⟩
   refine A2 fun a ha => Az (Ad ?_)
   obtain ⟨ff, hs⟩ := h.fin
   have h := h0.next ((fb.drop (fun _ h => h.elim)).trans ff) (by simp only [CB, SN.deep]; exact h0.st.unbase fb hs)
   generalize CB most long _ x = x1 at h
   refine A8 ha (Aa (Ac V V (Al V V V V (Ah V V (A2 fun a ha => Ad ?_)))))
   exact ⟨(i21 + 1, O1, x1, w1), ha.weak ⟨rfl, rfl, congrArg some (AS (BS hil hml)), trivial⟩, ⟨rfl, hil, h⟩, Nat.sub_lt_sub_left hil (Nat.lt_succ_self i21)⟩
 · have hend : i21 = l.length := Nat.le_antisymm hi (Nat.le_of_not_lt (of_decide_eq_false hf))
   replace h := h.popped hend
   obtain ⟨ff, hs⟩ := h.fin
   simp only [BQ] at hs
   exact AV V ha ⟨rfl, O1, ff, hs⟩
end Go.Sx
namespace Go.Sx
open Go.Proofs Go.Proofs.Tryz
theorem Sr : ∀ (N : Nat) (t : T), t.wt ≤ N → E4 88 (.st .sheet) t := by
 intro N
 induction N using Nat.strongRecOn with
 | _ N IH =>
 intro t hN
 intro w0 S p most long x O w cs hr hx hu
 refine AB 395 func88 V V V ?_
 refine Af (Aa (Cd (v := .agg cs.toArray) V V ?_))
 have fb : Fr (fun _ => False) w (fun _ => False) (w.alloc (.cells cs.toArray 36)) := Fr.alloc _ _ _
 have ab : Blk (w.alloc (.cells cs.toArray 36)) w.heap.size cs 36 := AN
 have hx1 := hx.rebase fb (Nat.le_refl _) ab.lt
 have hr1 := hr.plus hx fb w.heap.size
 show WL _ _ _ _ _ _ _ (w.alloc (.cells cs.toArray 36))
 generalize w.alloc (.cells cs.toArray 36) = wb at fb ab hx1 hr1 ⊢
 generalize w.heap.size = bx at ab hx1 hr1 ⊢
 have hA := ab.all
 have hlt := ab.lt
 have hS : plus w0 S bx bx := .inr rfl
 obtain ⟨fl1, rfl, hlen1, hF1⟩ := hr1.st_inv
 obtain ⟨a1_0, fl1, rfl, r1_0, hF1⟩ := hF1.cons_inv
 obtain ⟨a1_1, fl1, rfl, r1_1, hF1⟩ := hF1.cons_inv
 obtain ⟨a1_2, fl1, rfl, r1_2, hF1⟩ := hF1.cons_inv
 obtain ⟨a1_3, fl1, rfl, r1_3, hF1⟩ := hF1.cons_inv
 obtain ⟨a1_4, fl1, rfl, r1_4, hF1⟩ := hF1.cons_inv
 obtain ⟨a1_5, fl1, rfl, r1_5, hF1⟩ := hF1.cons_inv
 obtain ⟨a1_6, fl1, rfl, r1_6, hF1⟩ := hF1.cons_inv
 obtain ⟨a1_7, fl1, rfl, r1_7, hF1⟩ := hF1.cons_inv
 obtain ⟨a1_8, fl1, rfl, r1_8, hF1⟩ := hF1.cons_inv
 obtain ⟨a1_9, fl1, rfl, r1_9, hF1⟩ := hF1.cons_inv
 obtain rfl := hF1.nil_inv
 simp only [Nat.zero_add, Nat.reduceAdd, Ty.size] at r1_0 r1_1 r1_2 r1_3 r1_4 r1_5 r1_6 r1_7 r1_8 r1_9
 obtain ⟨l2, rfl⟩ := r1_1.is_list
 obtain ⟨g2, cap2, hv2, hml2, hget2⟩ := Bn r1_1
 obtain ⟨l3, rfl⟩ := r1_5.is_list
 obtain ⟨g3, cap3, hv3, hml3, hget3⟩ := Bn r1_5
 obtain ⟨l4, rfl⟩ := r1_6.is_list
 obtain ⟨g4, cap4, hv4, hml4, hget4⟩ := Bn r1_6
 obtain ⟨l5, rfl⟩ := r1_7.is_list
 obtain ⟨g5, cap5, hv5, hml5, hget5⟩ := Bn r1_7
 obtain ⟨l6, rfl⟩ := r1_8.is_list
 obtain ⟨g6, cap6, hv6, hml6, hget6⟩ := Bn r1_8
 obtain ⟨l7, rfl⟩ := r1_9.is_list
 obtain ⟨g7, cap7, hv7, hml7, hget7⟩ := Bn r1_9
 replace hu := KU hu
 refine Ar [(0, ptr p), (3, ptr bx)] ⟨V, V, trivial⟩ ?_
 refine Af (Af (Aa (Ac V V (Aj call135 V V (Ph hx1 (Lq hu)) ?_ Be))))
 rintro _ w1 ⟨rfl, O1, fd, hx2⟩
 refine Ae (AK V (fun ht => ?_) (fun hf => A_ fun a ha => Ad ?_))
 · have hC : ¬ (x.2 = true ∨ most < x.1.nest + 1 ∨ long < x.1.b.length) := by simpa only [Bool.not_eq_true', decide_eq_false_iff_not] using ht
   rw [decide_eq_false hC] at hx2
   have h := XS.start (r := [a1_0, (.list l2), a1_2, a1_3, a1_4, (.list l3), (.list l4), (.list l5), (.list l6), (.list l7)]) hx2 (FN hu)
   obtain ⟨Od, hOd⟩ : ∃ Od, Od = O1 := ⟨_, rfl⟩
   obtain ⟨wd, hwd⟩ : ∃ wd, wd = w1 := ⟨_, rfl⟩
   subst hOd hwd
   refine Dc [(0, ptr p), (3, ptr bx)] ⟨V, V, trivial⟩ ?_
   refine Af (Aa (Ac V V (Ab V (G_ _ _ _) V (Ai V (Ap (f := .str) Cc r1_0 (h.st.at_ hS hlt (hA.sub 0 1))) V (Aj call136 V V (h.call DL r1_0) ?_ Be)))))
   rintro _ w1 ⟨rfl, O1, x1, h⟩
   refine Ae ?_
   refine Af (Aa (Ac V V (Ab V (CQ _ _ _) V (Ai V (AR hv2 Fl r1_1 (h.st.at_ hS hlt (hA.sub 1 1))) V (AE V (Ay underlying26) V (Aj call137 V V h.len ?_ Be))))))
   rintro _ w1 ⟨rfl, O1, x1, h⟩
   refine Ae ?_
   refine Af (Af (Aa (Ah V V (Ae ?_))))
   refine A1 (AW (ι := Nat × (Nat → Prop) × XW × World) (fun i => [(0, ptr p), (3, ptr bx), (4, .int .i64 (i.1 : Int))])
    (fun i w' => w' = i.2.2.2 ∧ i.1 ≤ l2.length ∧ XS wb (plus w0 S bx) p most long Od wd (l2.drop i.1 ++ (a1_2 :: a1_3 :: a1_4 :: (.list l3) :: (.list l4) :: (.list l5) :: (.list l6) :: (.list l7) :: [])) (BQ most long [a1_0, (.list l2), a1_2, a1_3, a1_4, (.list l3), (.list l4), (.list l5), (.list l6), (.list l7)] ({ x.1 with nest := x.1.nest + 1 }, false)) i.2.1 w' i.2.2.1) (fun i => l2.length - i.1) (0, O1, x1, w1) ⟨V, V, V, trivial⟩ ⟨rfl, Nat.zero_le _, h⟩ ?_)
   clear h
   rintro ⟨i8, O1, x1, _⟩ w1 ⟨rfl, hi, h⟩
   simp only at hi h ⊢
   refine Af (Af (Aa (Ac V V (Ab V (CQ _ _ _) V (Ai V (AR hv2 Fl r1_1 (h.st.at_ hS hlt (hA.sub 1 1))) V (AE V (Ay underlying26) V (Al V V (Bh (c := decide (i8 < l2.length)) (decide_eq_decide.2 Int.ofNat_lt.symm)) V (Ae (AK V (fun ht => A_ fun a ha => Ad ?_) (fun hf => AQ fun a ha => Aq (Aq (A3 (Ad ?_)))))))))))))
   · have hil : i8 < l2.length := of_decide_eq_true ht
     obtain ⟨t9, hti9⟩ : ∃ t, l2[i8]? = some t := ⟨_, List.getElem?_eq_getElem hil⟩
     obtain ⟨b9, o9, ds9, hix9, hS9, hlt9, hA9, hr9⟩ := hget2 i8 t9 hti9
     have hw9 := B5 (List.mem_of_getElem? hti9)
     replace h := h.pop hti9
     refine A8 ha (Af (A1 ?_))
     obtain ⟨fl10, rfl, hlen10, hF10⟩ := hr9.st_inv
     obtain ⟨a10_0, fl10, rfl, r10_0, hF10⟩ := hF10.cons_inv
     obtain ⟨a10_1, fl10, rfl, r10_1, hF10⟩ := hF10.cons_inv
     obtain ⟨a10_2, fl10, rfl, r10_2, hF10⟩ := hF10.cons_inv
     obtain ⟨a10_3, fl10, rfl, r10_3, hF10⟩ := hF10.cons_inv
     obtain rfl := hF10.nil_inv
     simp only [Nat.zero_add, Nat.reduceAdd, Ty.size] at r10_0 r10_1 r10_2 r10_3
     replace h := h.flat rfl
     rcases r10_1.ptr_inv with ⟨rfl, hp11⟩ | ⟨u11, bu11, ou11, du11, rfl, hp11, hSu11, hltu11, hAu11, hlu11, hru11⟩
     · refine Af (Aa (Ac V V (Ab V (CQ _ _ _) V (Ai V (AR hv2 Fl r1_1 (h.st.at_ hS hlt (hA.sub 1 1))) V (Ac V V (A0 V V (hix9 _ underlying26 E5 V) V (Ab V (G0 _ _ _) V (Ai V (Ap (f := .str) Cc r10_0 (h.st.at_ hS9 hlt9 (hA9.sub 0 1))) V (Aj call136 V V (h.call DL r10_0) ?_ Be)))))))))
       rintro _ w1 ⟨rfl, O1, x1, h⟩
       refine Ae ?_
       refine Af (Aa (Ac V V (Ab V (CQ _ _ _) V (Ai V (AR hv2 Fl r1_1 (h.st.at_ hS hlt (hA.sub 1 1))) V (Ac V V (A0 V V (hix9 _ underlying26 E5 V) V (Ab V (C3 _ _ _) V (Ai V (A4 E9 (LH hp11 (h.st.at_ hS9 hlt9 (hA9.sub 1 1)))) V (AG V V Co EG V (Aj call138 V V h.isNil ?_ Be))))))))))
       rintro _ w1 ⟨rfl, O1, x1, h⟩
       refine Ae ?_
       refine Af (Af (Aa (Ab V (CQ _ _ _) V (Ai V (AR hv2 Fl r1_1 (h.st.at_ hS hlt (hA.sub 1 1))) V (Ac V V (A0 V V (hix9 _ underlying26 E5 V) V (Ab V (C3 _ _ _) V (Ai V (A4 E9 (LH hp11 (h.st.at_ hS9 hlt9 (hA9.sub 1 1)))) V (AG V V Co EG V (Ae (A9 V (A_ fun a ha => Ad ?_))))))))))))
       refine A8 ha ?_
       refine Af (Aa (Ac V V (Ab V (CQ _ _ _) V (Ai V (AR hv2 Fl r1_1 (h.st.at_ hS hlt (hA.sub 1 1))) V (Ac V V (A0 V V (hix9 _ underlying26 E5 V) V (Ab V (EX _ _ _) V (Ai V (Ap (f := .int) Cj r10_2 (h.st.at_ hS9 hlt9 (hA9.sub 2 1))) V (Aj call139 V V (h.call Ei r10_2) ?_ Be)))))))))
       rintro _ w1 ⟨rfl, O1, x1, h⟩
       refine Ae ?_
       refine Aa (Ac V V (Ab V (CQ _ _ _) V (Ai V (AR hv2 Fl r1_1 (h.st.at_ hS hlt (hA.sub 1 1))) V (Ac V V (A0 V V (hix9 _ underlying26 E5 V) V (Ab V (Fc _ _ _) V (Ai V (Ap (f := .int) Cj r10_3 (h.st.at_ hS9 hlt9 (hA9.sub 3 1))) V (Aj call139 V V (h.call Ei r10_3) ?_ Be))))))))
       rintro _ w1 ⟨rfl, O1, x1, h⟩
       refine A2 fun a ha => Az (Ad ?_)
       refine A8 ha (Aa (Ac V V (Al V V V V (Ah V V (A2 fun a ha => Ad ?_)))))
       exact ⟨(i8 + 1, O1, x1, w1), ha.weak ⟨rfl, rfl, congrArg some (AS (BS hil hml2)), trivial⟩, ⟨rfl, hil, h⟩, Nat.sub_lt_sub_left hil (Nat.lt_succ_self i8)⟩
     · refine Af (Aa (Ac V V (Ab V (CQ _ _ _) V (Ai V (AR hv2 Fl r1_1 (h.st.at_ hS hlt (hA.sub 1 1))) V (Ac V V (A0 V V (hix9 _ underlying26 E5 V) V (Ab V (G0 _ _ _) V (Ai V (Ap (f := .str) Cc r10_0 (h.st.at_ hS9 hlt9 (hA9.sub 0 1))) V (Aj call136 V V (h.call DL r10_0) ?_ Be)))))))))
       rintro _ w1 ⟨rfl, O1, x1, h⟩
       refine Ae ?_
       refine Af (Aa (Ac V V (Ab V (CQ _ _ _) V (Ai V (AR hv2 Fl r1_1 (h.st.at_ hS hlt (hA.sub 1 1))) V (Ac V V (A0 V V (hix9 _ underlying26 E5 V) V (Ab V (C3 _ _ _) V (Ai V (A4 E9 (LH hp11 (h.st.at_ hS9 hlt9 (hA9.sub 1 1)))) V (AG V V Co E8 V (Aj call138 V V h.isPtr ?_ Be))))))))))
       rintro _ w1 ⟨rfl, O1, x1, h⟩
       refine Ae ?_
       refine Af (Af (Aa (Ab V (CQ _ _ _) V (Ai V (AR hv2 Fl r1_1 (h.st.at_ hS hlt (hA.sub 1 1))) V (Ac V V (A0 V V (hix9 _ underlying26 E5 V) V (Ab V (C3 _ _ _) V (Ai V (A4 E9 (LH hp11 (h.st.at_ hS9 hlt9 (hA9.sub 1 1)))) V (AG V V Co E8 V (Ae (Ax V ?_)))))))))))
       refine Aa (Ac V V (Ab V (CQ _ _ _) V (Ai V (AR hv2 Fl r1_1 (h.st.at_ hS hlt (hA.sub 1 1))) V (Ac V V (A0 V V (hix9 _ underlying26 E5 V) V (Ab V (C3 _ _ _) V (Ai V (A4 E9 (LH hp11 (h.st.at_ hS9 hlt9 (hA9.sub 1 1)))) V (As V V (Ai V (Ap (f := .st .sheet) EE hru11 (h.st.at_ hSu11 hltu11 hAu11)) V (Aj call88 V V (h.call (IH _ (PH (Nat.lt_trans (De (by simp) hw9 (Nat.le_refl _)) (KV (by simp) hN))) _ (Nat.le_refl _)) hru11) ?_ Be))))))))))
       rintro _ w1 ⟨rfl, O1, x1, h⟩
       refine A2 fun a ha => Ad (A8 ha ?_)
       refine Af (Aa (Ac V V (Ab V (CQ _ _ _) V (Ai V (AR hv2 Fl r1_1 (h.st.at_ hS hlt (hA.sub 1 1))) V (Ac V V (A0 V V (hix9 _ underlying26 E5 V) V (Ab V (EX _ _ _) V (Ai V (Ap (f := .int) Cj r10_2 (h.st.at_ hS9 hlt9 (hA9.sub 2 1))) V (Aj call139 V V (h.call Ei r10_2) ?_ Be)))))))))
       rintro _ w1 ⟨rfl, O1, x1, h⟩
       refine Ae ?_
       refine Aa (Ac V V (Ab V (CQ _ _ _) V (Ai V (AR hv2 Fl r1_1 (h.st.at_ hS hlt (hA.sub 1 1))) V (Ac V V (A0 V V (hix9 _ underlying26 E5 V) V (Ab V (Fc _ _ _) V (Ai V (Ap (f := .int) Cj r10_3 (h.st.at_ hS9 hlt9 (hA9.sub 3 1))) V (Aj call139 V V (h.call Ei r10_3) ?_ Be))))))))
       rintro _ w1 ⟨rfl, O1, x1, h⟩
       refine A2 fun a ha => Az (Ad ?_)
       refine A8 ha (Aa (Ac V V (Al V V V V (Ah V V (A2 fun a ha => Ad ?_)))))
       exact ⟨(i8 + 1, O1, x1, w1), ha.weak ⟨rfl, rfl, congrArg some (AS (BS hil hml2)), trivial⟩, ⟨rfl, hil, h⟩, Nat.sub_lt_sub_left hil (Nat.lt_succ_self i8)⟩
   · have hend : i8 = l2.length := Nat.le_antisymm hi (Nat.le_of_not_lt (of_decide_eq_false hf))
     replace h := h.popped hend
     refine A8 ha ?_
     refine Af (Aa (Ac V V (Ab V (G6 _ _ _) V (Ai V (Ap (f := .list (.st .template)) KY r1_2 (h.st.at_ hS hlt (hA.sub 2 1))) V (Aj call140 V V (h.call Rv r1_2) ?_ Be)))))
     rintro _ w1 ⟨rfl, O1, x1, h⟩
     refine Ae ?_
     refine Af (Aa (Ac V V (Ab V (GF _ _ _) V (Ai V (Ap (f := .list (.st .dfn)) Lg r1_3 (h.st.at_ hS hlt (hA.sub 3 1))) V (Aj call141 V V (h.call Rb r1_3) ?_ Be)))))
     rintro _ w1 ⟨rfl, O1, x1, h⟩
     refine Ae ?_
     refine Af (Aa (Ac V V (Ab V (GD _ _ _) V (Ai V (Ap (f := .list (.st .global)) KX r1_4 (h.st.at_ hS hlt (hA.sub 4 1))) V (Aj call142 V V (h.call QG r1_4) ?_ Be)))))
     rintro _ w1 ⟨rfl, O1, x1, h⟩
     refine Ae ?_
     refine Af (Aa (Ac V V (Ab V (DY _ _ _) V (Ai V (AR hv3 Kn r1_5 (h.st.at_ hS hlt (hA.sub 5 1))) V (AE V (Ay underlying30) V (Aj call137 V V h.len ?_ Be))))))
     rintro _ w1 ⟨rfl, O1, x1, h⟩
     refine Ae ?_
     refine Af (Af (Aa (Ah V V (Ae ?_))))
     refine A1 (AW (ι := Nat × (Nat → Prop) × XW × World) (fun i => [(0, ptr p), (3, ptr bx), (5, .int .i64 (i.1 : Int))])
      (fun i w' => w' = i.2.2.2 ∧ i.1 ≤ l3.length ∧ XS wb (plus w0 S bx) p most long Od wd (l3.drop i.1 ++ ((.list l4) :: (.list l5) :: (.list l6) :: (.list l7) :: [])) (BQ most long [a1_0, (.list l2), a1_2, a1_3, a1_4, (.list l3), (.list l4), (.list l5), (.list l6), (.list l7)] ({ x.1 with nest := x.1.nest + 1 }, false)) i.2.1 w' i.2.2.1) (fun i => l3.length - i.1) (0, O1, x1, w1) ⟨V, V, V, trivial⟩ ⟨rfl, Nat.zero_le _, h⟩ ?_)
     clear h
     rintro ⟨i12, O1, x1, _⟩ w1 ⟨rfl, hi, h⟩
     simp only at hi h ⊢
     refine Af (Af (Aa (Ac V V (Ab V (DY _ _ _) V (Ai V (AR hv3 Kn r1_5 (h.st.at_ hS hlt (hA.sub 5 1))) V (AE V (Ay underlying30) V (Al V V (Bh (c := decide (i12 < l3.length)) (decide_eq_decide.2 Int.ofNat_lt.symm)) V (Ae (AK V (fun ht => A_ fun a ha => Ad ?_) (fun hf => AQ fun a ha => Aq (Aq (A3 (Ad ?_)))))))))))))
     · have hil : i12 < l3.length := of_decide_eq_true ht
       obtain ⟨t13, hti13⟩ : ∃ t, l3[i12]? = some t := ⟨_, List.getElem?_eq_getElem hil⟩
       obtain ⟨b13, o13, ds13, hix13, hS13, hlt13, hA13, hr13⟩ := hget3 i12 t13 hti13
       have hw13 := B5 (List.mem_of_getElem? hti13)
       replace h := h.pop hti13
       refine A8 ha (Af (A1 ?_))
       obtain ⟨fl14, rfl, hlen14, hF14⟩ := hr13.st_inv
       obtain ⟨a14_0, fl14, rfl, r14_0, hF14⟩ := hF14.cons_inv
       obtain ⟨a14_1, fl14, rfl, r14_1, hF14⟩ := hF14.cons_inv
       obtain ⟨a14_2, fl14, rfl, r14_2, hF14⟩ := hF14.cons_inv
       obtain rfl := hF14.nil_inv
       simp only [Nat.zero_add, Nat.reduceAdd, Ty.size, SN.size] at r14_0 r14_1 r14_2
       replace h := h.flat rfl
       refine Af (Aa (Ac V V (Ab V (DY _ _ _) V (Ai V (AR hv3 Kn r1_5 (h.st.at_ hS hlt (hA.sub 5 1))) V (Ac V V (A0 V V (hix13 _ underlying30 Ha V) V (Ab V (Hy _ _ _) V (Ai V (Ap (f := .str) Cc r14_0 (h.st.at_ hS13 hlt13 (hA13.sub 0 1))) V (Aj call136 V V (h.call DL r14_0) ?_ Be)))))))))
       rintro _ w1 ⟨rfl, O1, x1, h⟩
       refine Ae ?_
       refine Af (Aa (Ac V V (Ab V (DY _ _ _) V (Ai V (AR hv3 Kn r1_5 (h.st.at_ hS hlt (hA.sub 5 1))) V (Ac V V (A0 V V (hix13 _ underlying30 Ha V) V (Ab V (Ia _ _ _) V (Ai V (Ap (f := .list (.st .expr)) Eh r14_1 (h.st.at_ hS13 hlt13 (hA13.sub 1 1))) V (Aj call143 V V (h.call Mw r14_1) ?_ Be)))))))))
       rintro _ w1 ⟨rfl, O1, x1, h⟩
       refine Ae ?_
       refine Aa (Ac V V (Ab V (DY _ _ _) V (Ai V (AR hv3 Kn r1_5 (h.st.at_ hS hlt (hA.sub 5 1))) V (Ac V V (A0 V V (hix13 _ underlying30 Ha V) V (Ab V (HK _ _ _) V (Ai V (Ap (f := .st .expr) BY r14_2 (h.st.at_ hS13 hlt13 (hA13.sub 2 16))) V (Aj call144 V V (h.call GQ r14_2) ?_ Be))))))))
       rintro _ w1 ⟨rfl, O1, x1, h⟩
       refine A2 fun a ha => Az (Ad ?_)
       refine A8 ha (Aa (Ac V V (Al V V V V (Ah V V (A2 fun a ha => Ad ?_)))))
       exact ⟨(i12 + 1, O1, x1, w1), ha.weak ⟨rfl, rfl, congrArg some (AS (BS hil hml3)), trivial⟩, ⟨rfl, hil, h⟩, Nat.sub_lt_sub_left hil (Nat.lt_succ_self i12)⟩
     · have hend : i12 = l3.length := Nat.le_antisymm hi (Nat.le_of_not_lt (of_decide_eq_false hf))
       replace h := h.popped hend
       refine A8 ha ?_
       refine Af (Aa (Ac V V (Ab V (Dm _ _ _) V (Ai V (AR hv4 GW r1_6 (h.st.at_ hS hlt (hA.sub 6 1))) V (AE V (Ay underlying31) V (Aj call137 V V h.len ?_ Be))))))
       rintro _ w1 ⟨rfl, O1, x1, h⟩
       refine Ae ?_
       refine Af (Af (Aa (Ah V V (Ae ?_))))
       refine A1 (AW (ι := Nat × (Nat → Prop) × XW × World) (fun i => [(0, ptr p), (3, ptr bx), (6, .int .i64 (i.1 : Int))])
        (fun i w' => w' = i.2.2.2 ∧ i.1 ≤ l4.length ∧ XS wb (plus w0 S bx) p most long Od wd (l4.drop i.1 ++ ((.list l5) :: (.list l6) :: (.list l7) :: [])) (BQ most long [a1_0, (.list l2), a1_2, a1_3, a1_4, (.list l3), (.list l4), (.list l5), (.list l6), (.list l7)] ({ x.1 with nest := x.1.nest + 1 }, false)) i.2.1 w' i.2.2.1) (fun i => l4.length - i.1) (0, O1, x1, w1) ⟨V, V, V, trivial⟩ ⟨rfl, Nat.zero_le _, h⟩ ?_)
       clear h
       rintro ⟨i15, O1, x1, _⟩ w1 ⟨rfl, hi, h⟩
       simp only at hi h ⊢
       refine Af (Af (Aa (Ac V V (Ab V (Dm _ _ _) V (Ai V (AR hv4 GW r1_6 (h.st.at_ hS hlt (hA.sub 6 1))) V (AE V (Ay underlying31) V (Al V V (Bh (c := decide (i15 < l4.length)) (decide_eq_decide.2 Int.ofNat_lt.symm)) V (Ae (AK V (fun ht => A_ fun a ha => Ad ?_) (fun hf => AQ fun a ha => Aq (Aq (A3 (Ad ?_)))))))))))))
       · have hil : i15 < l4.length := of_decide_eq_true ht
         obtain ⟨t16, hti16⟩ : ∃ t, l4[i15]? = some t := ⟨_, List.getElem?_eq_getElem hil⟩
         obtain ⟨b16, o16, ds16, hix16, hS16, hlt16, hA16, hr16⟩ := hget4 i15 t16 hti16
         have hw16 := B5 (List.mem_of_getElem? hti16)
         replace h := h.pop hti16
         refine A8 ha (Af (A1 ?_))
         obtain ⟨fl17, rfl, hlen17, hF17⟩ := hr16.st_inv
         obtain ⟨a17_0, fl17, rfl, r17_0, hF17⟩ := hF17.cons_inv
         obtain ⟨a17_1, fl17, rfl, r17_1, hF17⟩ := hF17.cons_inv
         obtain ⟨a17_2, fl17, rfl, r17_2, hF17⟩ := hF17.cons_inv
         obtain rfl := hF17.nil_inv
         simp only [Nat.zero_add, Nat.reduceAdd, Ty.size, SN.size] at r17_0 r17_1 r17_2
         obtain ⟨l18, rfl⟩ := r17_2.is_list
         obtain ⟨g18, cap18, hv18, hml18, hget18⟩ := Bn r17_2
         replace h := h.flat rfl
         refine Af (Aa (Ac V V (Ab V (Dm _ _ _) V (Ai V (AR hv4 GW r1_6 (h.st.at_ hS hlt (hA.sub 6 1))) V (Ac V V (A0 V V (hix16 _ underlying31 Ds V) V (Ab V (Fx _ _ _) V (Ai V (Ap (f := .str) Cc r17_0 (h.st.at_ hS16 hlt16 (hA16.sub 0 1))) V (Aj call136 V V (h.call DL r17_0) ?_ Be)))))))))
         rintro _ w1 ⟨rfl, O1, x1, h⟩
         refine Ae ?_
         refine Af (Aa (Ac V V (Ab V (Dm _ _ _) V (Ai V (AR hv4 GW r1_6 (h.st.at_ hS hlt (hA.sub 6 1))) V (Ac V V (A0 V V (hix16 _ underlying31 Ds V) V (Ab V (Gv _ _ _) V (Ai V (Ap (f := .st .expr) BY r17_1 (h.st.at_ hS16 hlt16 (hA16.sub 1 16))) V (Aj call144 V V (h.call GQ r17_1) ?_ Be)))))))))
         rintro _ w1 ⟨rfl, O1, x1, h⟩
         refine Ae ?_
         refine Af (Aa (Ac V V (Ab V (Dm _ _ _) V (Ai V (AR hv4 GW r1_6 (h.st.at_ hS hlt (hA.sub 6 1))) V (Ac V V (A0 V V (hix16 _ underlying31 Ds V) V (Ab V (CZ _ _ _) V (Ai V (AR hv18 Fb r17_2 (h.st.at_ hS16 hlt16 (hA16.sub 17 1))) V (AE V (Ay underlying149) V (Aj call137 V V h.len ?_ Be))))))))))
         rintro _ w1 ⟨rfl, O1, x1, h⟩
         refine Ae ?_
         refine Af (Aa (Ah V V (Ae ?_)))
         refine A1 (AW (ι := Nat × (Nat → Prop) × XW × World) (fun i => [(0, ptr p), (3, ptr bx), (6, .int .i64 (i15 : Int)), (7, .int .i64 (i.1 : Int))])
          (fun i w' => w' = i.2.2.2 ∧ i.1 ≤ l18.length ∧ XS wb (plus w0 S bx) p most long Od wd (l18.drop i.1 ++ ((l4.drop (i15 + 1) ++ ((.list l5) :: (.list l6) :: (.list l7) :: [])))) (BQ most long [a1_0, (.list l2), a1_2, a1_3, a1_4, (.list l3), (.list l4), (.list l5), (.list l6), (.list l7)] ({ x.1 with nest := x.1.nest + 1 }, false)) i.2.1 w' i.2.2.1) (fun i => l18.length - i.1) (0, O1, x1, w1) ⟨V, V, V, V, trivial⟩ ⟨rfl, Nat.zero_le _, h⟩ ?_)
         clear h
         rintro ⟨i19, O1, x1, _⟩ w1 ⟨rfl, hi, h⟩
         simp only at hi h ⊢
         refine Af (Af (Aa (Ac V V (Ab V (Dm _ _ _) V (Ai V (AR hv4 GW r1_6 (h.st.at_ hS hlt (hA.sub 6 1))) V (Ac V V (A0 V V (hix16 _ underlying31 Ds V) V (Ab V (CZ _ _ _) V (Ai V (AR hv18 Fb r17_2 (h.st.at_ hS16 hlt16 (hA16.sub 17 1))) V (AE V (Ay underlying149) V (Al V V (Bh (c := decide (i19 < l18.length)) (decide_eq_decide.2 Int.ofNat_lt.symm)) V (Ae (AK V (fun ht => A_ fun a ha => Ad ?_) (fun hf => AQ fun a ha => Aq (Aq (A3 ?_))))))))))))))))
         · have hil : i19 < l18.length := of_decide_eq_true ht
           obtain ⟨t20, hti20⟩ : ∃ t, l18[i19]? = some t := ⟨_, List.getElem?_eq_getElem hil⟩
           obtain ⟨b20, o20, ds20, hix20, hS20, hlt20, hA20, hr20⟩ := hget18 i19 t20 hti20
           have hw20 := B5 (List.mem_of_getElem? hti20)
           replace h := h.pop hti20
           refine A8 ha (Af (A1 ?_))
           obtain ⟨fl21, rfl, hlen21, hF21⟩ := hr20.st_inv
           obtain ⟨a21_0, fl21, rfl, r21_0, hF21⟩ := hF21.cons_inv
           obtain ⟨a21_1, fl21, rfl, r21_1, hF21⟩ := hF21.cons_inv
           obtain ⟨a21_2, fl21, rfl, r21_2, hF21⟩ := hF21.cons_inv
           obtain rfl := hF21.nil_inv
           simp only [Nat.zero_add, Nat.reduceAdd, Ty.size, SN.size] at r21_0 r21_1 r21_2
           replace h := h.flat rfl
           refine Af (Aa (Ac V V (Ab V (Dm _ _ _) V (Ai V (AR hv4 GW r1_6 (h.st.at_ hS hlt (hA.sub 6 1))) V (Ac V V (A0 V V (hix16 _ underlying31 Ds V) V (Ab V (CZ _ _ _) V (Ai V (AR hv18 Fb r17_2 (h.st.at_ hS16 hlt16 (hA16.sub 17 1))) V (Ac V V (A0 V V (hix20 _ underlying149 Ew V) V (Ab V (FR _ _ _) V (Ai V (Ap (f := .list (.st .expr)) Eh r21_0 (h.st.at_ hS20 hlt20 (hA20.sub 0 1))) V (Aj call143 V V (h.call Mw r21_0) ?_ Be)))))))))))))
           rintro _ w1 ⟨rfl, O1, x1, h⟩
           refine Ae ?_
           refine Af (Aa (Ac V V (Ab V (Dm _ _ _) V (Ai V (AR hv4 GW r1_6 (h.st.at_ hS hlt (hA.sub 6 1))) V (Ac V V (A0 V V (hix16 _ underlying31 Ds V) V (Ab V (CZ _ _ _) V (Ai V (AR hv18 Fb r17_2 (h.st.at_ hS16 hlt16 (hA16.sub 17 1))) V (Ac V V (A0 V V (hix20 _ underlying149 Ew V) V (Ab V (FJ _ _ _) V (Ai V (Ap (f := .bool) Dp r21_1 (h.st.at_ hS20 hlt20 (hA20.sub 1 1))) V (Aj call138 V V (h.call Jg r21_1) ?_ Be)))))))))))))
           rintro _ w1 ⟨rfl, O1, x1, h⟩
           refine Ae ?_
           refine Aa (Ac V V (Ab V (Dm _ _ _) V (Ai V (AR hv4 GW r1_6 (h.st.at_ hS hlt (hA.sub 6 1))) V (Ac V V (A0 V V (hix16 _ underlying31 Ds V) V (Ab V (CZ _ _ _) V (Ai V (AR hv18 Fb r17_2 (h.st.at_ hS16 hlt16 (hA16.sub 17 1))) V (Ac V V (A0 V V (hix20 _ underlying149 Ew V) V (Ab V (FC _ _ _) V (Ai V (Ap (f := .st .expr) BY r21_2 (h.st.at_ hS20 hlt20 (hA20.sub 2 16))) V (Aj call144 V V (h.call GQ r21_2) ?_ Be))))))))))))
           rintro _ w1 ⟨rfl, O1, x1, h⟩
           refine A2 fun a ha => Az (Ad ?_)
           refine A8 ha (Aa (Ac V V (Al V V V V (Ah V V (A2 fun a ha => Ad ?_)))))
           exact ⟨(i19 + 1, O1, x1, w1), ha.weak ⟨rfl, rfl, rfl, congrArg some (AS (BS hil hml18)), trivial⟩, ⟨rfl, hil, h⟩, Nat.sub_lt_sub_left hil (Nat.lt_succ_self i19)⟩
         · have hend : i19 = l18.length := Nat.le_antisymm hi (Nat.le_of_not_lt (of_decide_eq_false hf))
           replace h := h.popped hend
           refine A8 ha (Aa (Ac V V (Al V V V V (Ah V V (A2 fun a ha => Ad ?_)))))
           exact ⟨(i15 + 1, O1, x1, w1), ha.weak ⟨rfl, rfl, congrArg some (AS (BS hil hml4)), trivial⟩, ⟨rfl, hil, h⟩, Nat.sub_lt_sub_left hil (Nat.lt_succ_self i15)⟩
       · have hend : i15 = l4.length := Nat.le_antisymm hi (Nat.le_of_not_lt (of_decide_eq_false hf))
         replace h := h.popped hend
         refine A8 ha ?_
         refine Af (Aa (Ac V V (Ab V (CO _ _ _) V (Ai V (AR hv5 GV r1_7 (h.st.at_ hS hlt (hA.sub 7 1))) V (AE V (Ay underlying32) V (Aj call137 V V h.len ?_ Be))))))
         rintro _ w1 ⟨rfl, O1, x1, h⟩
         refine Ae ?_
         refine Af (Af (Aa (Ah V V (Ae ?_))))
         refine A1 (AW (ι := Nat × (Nat → Prop) × XW × World) (fun i => [(0, ptr p), (3, ptr bx), (8, .int .i64 (i.1 : Int))])
          (fun i w' => w' = i.2.2.2 ∧ i.1 ≤ l5.length ∧ XS wb (plus w0 S bx) p most long Od wd (l5.drop i.1 ++ ((.list l6) :: (.list l7) :: [])) (BQ most long [a1_0, (.list l2), a1_2, a1_3, a1_4, (.list l3), (.list l4), (.list l5), (.list l6), (.list l7)] ({ x.1 with nest := x.1.nest + 1 }, false)) i.2.1 w' i.2.2.1) (fun i => l5.length - i.1) (0, O1, x1, w1) ⟨V, V, V, trivial⟩ ⟨rfl, Nat.zero_le _, h⟩ ?_)
         clear h
         rintro ⟨i22, O1, x1, _⟩ w1 ⟨rfl, hi, h⟩
         simp only at hi h ⊢
         refine Af (Af (Aa (Ac V V (Ab V (CO _ _ _) V (Ai V (AR hv5 GV r1_7 (h.st.at_ hS hlt (hA.sub 7 1))) V (AE V (Ay underlying32) V (Al V V (Bh (c := decide (i22 < l5.length)) (decide_eq_decide.2 Int.ofNat_lt.symm)) V (Ae (AK V (fun ht => A_ fun a ha => Ad ?_) (fun hf => AQ fun a ha => Aq (Aq (A3 (Ad ?_)))))))))))))
         · have hil : i22 < l5.length := of_decide_eq_true ht
           obtain ⟨t23, hti23⟩ : ∃ t, l5[i22]? = some t := ⟨_, List.getElem?_eq_getElem hil⟩
           obtain ⟨b23, o23, ds23, hix23, hS23, hlt23, hA23, hr23⟩ := hget5 i22 t23 hti23
           have hw23 := B5 (List.mem_of_getElem? hti23)
           replace h := h.pop hti23
           refine A8 ha (Af (A1 ?_))
           obtain ⟨fl24, rfl, hlen24, hF24⟩ := hr23.st_inv
           obtain ⟨a24_0, fl24, rfl, r24_0, hF24⟩ := hF24.cons_inv
           obtain ⟨a24_1, fl24, rfl, r24_1, hF24⟩ := hF24.cons_inv
           obtain ⟨a24_2, fl24, rfl, r24_2, hF24⟩ := hF24.cons_inv
           obtain ⟨a24_3, fl24, rfl, r24_3, hF24⟩ := hF24.cons_inv
           obtain ⟨a24_4, fl24, rfl, r24_4, hF24⟩ := hF24.cons_inv
           obtain ⟨a24_5, fl24, rfl, r24_5, hF24⟩ := hF24.cons_inv
           obtain rfl := hF24.nil_inv
           simp only [Nat.zero_add, Nat.reduceAdd, Ty.size] at r24_0 r24_1 r24_2 r24_3 r24_4 r24_5
           replace h := h.flat rfl
           refine Af (Aa (Ac V V (Ab V (CO _ _ _) V (Ai V (AR hv5 GV r1_7 (h.st.at_ hS hlt (hA.sub 7 1))) V (Ac V V (A0 V V (hix23 _ underlying32 Gz V) V (Ab V (JO _ _ _) V (Ai V (Ap (f := .str) Cc r24_0 (h.st.at_ hS23 hlt23 (hA23.sub 0 1))) V (Aj call136 V V (h.call DL r24_0) ?_ Be)))))))))
           rintro _ w1 ⟨rfl, O1, x1, h⟩
           refine Ae ?_
           refine Af (Aa (Ac V V (Ab V (CO _ _ _) V (Ai V (AR hv5 GV r1_7 (h.st.at_ hS hlt (hA.sub 7 1))) V (Ac V V (A0 V V (hix23 _ underlying32 Gz V) V (Ab V (IQ _ _ _) V (Ai V (Ap (f := .str) Cc r24_1 (h.st.at_ hS23 hlt23 (hA23.sub 1 1))) V (Aj call136 V V (h.call DL r24_1) ?_ Be)))))))))
           rintro _ w1 ⟨rfl, O1, x1, h⟩
           refine Ae ?_
           refine Af (Aa (Ac V V (Ab V (CO _ _ _) V (Ai V (AR hv5 GV r1_7 (h.st.at_ hS hlt (hA.sub 7 1))) V (Ac V V (A0 V V (hix23 _ underlying32 Gz V) V (Ab V (JB _ _ _) V (Ai V (Ap (f := .bool) Dp r24_2 (h.st.at_ hS23 hlt23 (hA23.sub 2 1))) V (Aj call138 V V (h.call Jg r24_2) ?_ Be)))))))))
           rintro _ w1 ⟨rfl, O1, x1, h⟩
           refine Ae ?_
           refine Af (Aa (Ac V V (Ab V (CO _ _ _) V (Ai V (AR hv5 GV r1_7 (h.st.at_ hS hlt (hA.sub 7 1))) V (Ac V V (A0 V V (hix23 _ underlying32 Gz V) V (Ab V (J_ _ _ _) V (Ai V (Ap (f := .bool) Dp r24_3 (h.st.at_ hS23 hlt23 (hA23.sub 3 1))) V (Aj call138 V V (h.call Jg r24_3) ?_ Be)))))))))
           rintro _ w1 ⟨rfl, O1, x1, h⟩
           refine Ae ?_
           refine Af (Aa (Ac V V (Ab V (CO _ _ _) V (Ai V (AR hv5 GV r1_7 (h.st.at_ hS hlt (hA.sub 7 1))) V (Ac V V (A0 V V (hix23 _ underlying32 Gz V) V (Ab V (JF _ _ _) V (Ai V (Ap (f := .str) Cc r24_4 (h.st.at_ hS23 hlt23 (hA23.sub 4 1))) V (Aj call136 V V (h.call DL r24_4) ?_ Be)))))))))
           rintro _ w1 ⟨rfl, O1, x1, h⟩
           refine Ae ?_
           refine Aa (Ac V V (Ab V (CO _ _ _) V (Ai V (AR hv5 GV r1_7 (h.st.at_ hS hlt (hA.sub 7 1))) V (Ac V V (A0 V V (hix23 _ underlying32 Gz V) V (Ab V (JC _ _ _) V (Ai V (Ap (f := .int) Cj r24_5 (h.st.at_ hS23 hlt23 (hA23.sub 5 1))) V (Aj call139 V V (h.call Ei r24_5) ?_ Be))))))))
           rintro _ w1 ⟨rfl, O1, x1, h⟩
           refine A2 fun a ha => Az (Ad ?_)
           refine A8 ha (Aa (Ac V V (Al V V V V (Ah V V (A2 fun a ha => Ad ?_)))))
           exact ⟨(i22 + 1, O1, x1, w1), ha.weak ⟨rfl, rfl, congrArg some (AS (BS hil hml5)), trivial⟩, ⟨rfl, hil, h⟩, Nat.sub_lt_sub_left hil (Nat.lt_succ_self i22)⟩
         · have hend : i22 = l5.length := Nat.le_antisymm hi (Nat.le_of_not_lt (of_decide_eq_false hf))
           replace h := h.popped hend
           refine A8 ha ?_
           refine Af (Aa (Ac V V (Ab V (D8 _ _ _) V (Ai V (AR hv6 Jm r1_8 (h.st.at_ hS hlt (hA.sub 8 1))) V (AE V (Ay underlying33) V (Aj call137 V V h.len ?_ Be))))))
           rintro _ w1 ⟨rfl, O1, x1, h⟩
           refine Ae ?_
           refine Af (Af (Aa (Ah V V (Ae ?_))))
           refine A1 (AW (ι := Nat × (Nat → Prop) × XW × World) (fun i => [(0, ptr p), (3, ptr bx), (9, .int .i64 (i.1 : Int))])
            (fun i w' => w' = i.2.2.2 ∧ i.1 ≤ l6.length ∧ XS wb (plus w0 S bx) p most long Od wd (l6.drop i.1 ++ ((.list l7) :: [])) (BQ most long [a1_0, (.list l2), a1_2, a1_3, a1_4, (.list l3), (.list l4), (.list l5), (.list l6), (.list l7)] ({ x.1 with nest := x.1.nest + 1 }, false)) i.2.1 w' i.2.2.1) (fun i => l6.length - i.1) (0, O1, x1, w1) ⟨V, V, V, trivial⟩ ⟨rfl, Nat.zero_le _, h⟩ ?_)
           clear h
           rintro ⟨i25, O1, x1, _⟩ w1 ⟨rfl, hi, h⟩
           simp only at hi h ⊢
           refine Af (Af (Aa (Ac V V (Ab V (D8 _ _ _) V (Ai V (AR hv6 Jm r1_8 (h.st.at_ hS hlt (hA.sub 8 1))) V (AE V (Ay underlying33) V (Al V V (Bh (c := decide (i25 < l6.length)) (decide_eq_decide.2 Int.ofNat_lt.symm)) V (Ae (AK V (fun ht => A_ fun a ha => Ad ?_) (fun hf => AQ fun a ha => Aq (Aq (A3 (Ad ?_)))))))))))))
           · have hil : i25 < l6.length := of_decide_eq_true ht
             obtain ⟨t26, hti26⟩ : ∃ t, l6[i25]? = some t := ⟨_, List.getElem?_eq_getElem hil⟩
             obtain ⟨b26, o26, ds26, hix26, hS26, hlt26, hA26, hr26⟩ := hget6 i25 t26 hti26
             have hw26 := B5 (List.mem_of_getElem? hti26)
             replace h := h.pop hti26
             refine A8 ha (Af (A1 ?_))
             obtain ⟨fl27, rfl, hlen27, hF27⟩ := hr26.st_inv
             obtain ⟨a27_0, fl27, rfl, r27_0, hF27⟩ := hF27.cons_inv
             obtain ⟨a27_1, fl27, rfl, r27_1, hF27⟩ := hF27.cons_inv
             obtain ⟨a27_2, fl27, rfl, r27_2, hF27⟩ := hF27.cons_inv
             obtain ⟨a27_3, fl27, rfl, r27_3, hF27⟩ := hF27.cons_inv
             obtain ⟨a27_4, fl27, rfl, r27_4, hF27⟩ := hF27.cons_inv
             obtain rfl := hF27.nil_inv
             simp only [Nat.zero_add, Nat.reduceAdd, Ty.size] at r27_0 r27_1 r27_2 r27_3 r27_4
             replace h := h.flat rfl
             refine Af (Aa (Ac V V (Ab V (D8 _ _ _) V (Ai V (AR hv6 Jm r1_8 (h.st.at_ hS hlt (hA.sub 8 1))) V (Ac V V (A0 V V (hix26 _ underlying33 Dw V) V (Ab V (Fq _ _ _) V (Ai V (Ap (f := .str) Cc r27_0 (h.st.at_ hS26 hlt26 (hA26.sub 0 1))) V (Aj call136 V V (h.call DL r27_0) ?_ Be)))))))))
             rintro _ w1 ⟨rfl, O1, x1, h⟩
             refine Ae ?_
             refine Af (Aa (Ac V V (Ab V (D8 _ _ _) V (Ai V (AR hv6 Jm r1_8 (h.st.at_ hS hlt (hA.sub 8 1))) V (Ac V V (A0 V V (hix26 _ underlying33 Dw V) V (Ab V (FK _ _ _) V (Ai V (Ap (f := .str) Cc r27_1 (h.st.at_ hS26 hlt26 (hA26.sub 1 1))) V (Aj call136 V V (h.call DL r27_1) ?_ Be)))))))))
             rintro _ w1 ⟨rfl, O1, x1, h⟩
             refine Ae ?_
             refine Af (Aa (Ac V V (Ab V (D8 _ _ _) V (Ai V (AR hv6 Jm r1_8 (h.st.at_ hS hlt (hA.sub 8 1))) V (Ac V V (A0 V V (hix26 _ underlying33 Dw V) V (Ab V (Gj _ _ _) V (Ai V (Ap (f := .bool) Dp r27_2 (h.st.at_ hS26 hlt26 (hA26.sub 2 1))) V (Aj call138 V V (h.call Jg r27_2) ?_ Be)))))))))
             rintro _ w1 ⟨rfl, O1, x1, h⟩
             refine Ae ?_
             refine Af (Aa (Ac V V (Ab V (D8 _ _ _) V (Ai V (AR hv6 Jm r1_8 (h.st.at_ hS hlt (hA.sub 8 1))) V (Ac V V (A0 V V (hix26 _ underlying33 Dw V) V (Ab V (Gd _ _ _) V (Ai V (Ap (f := .bool) Dp r27_3 (h.st.at_ hS26 hlt26 (hA26.sub 3 1))) V (Aj call138 V V (h.call Jg r27_3) ?_ Be)))))))))
             rintro _ w1 ⟨rfl, O1, x1, h⟩
             refine Ae ?_
             refine Aa (Ac V V (Ab V (D8 _ _ _) V (Ai V (AR hv6 Jm r1_8 (h.st.at_ hS hlt (hA.sub 8 1))) V (Ac V V (A0 V V (hix26 _ underlying33 Dw V) V (Ab V (FD _ _ _) V (Ai V (Ap (f := .list (.str)) D_ r27_4 (h.st.at_ hS26 hlt26 (hA26.sub 4 1))) V (Aj call145 V V (h.call PJ r27_4) ?_ Be))))))))
             rintro _ w1 ⟨rfl, O1, x1, h⟩
             refine A2 fun a ha => Az (Ad ?_)
             refine A8 ha (Aa (Ac V V (Al V V V V (Ah V V (A2 fun a ha => Ad ?_)))))
             exact ⟨(i25 + 1, O1, x1, w1), ha.weak ⟨rfl, rfl, congrArg some (AS (BS hil hml6)), trivial⟩, ⟨rfl, hil, h⟩, Nat.sub_lt_sub_left hil (Nat.lt_succ_self i25)⟩
           · have hend : i25 = l6.length := Nat.le_antisymm hi (Nat.le_of_not_lt (of_decide_eq_false hf))
             replace h := h.popped hend
             refine A8 ha ?_
             refine Af (Aa (Ac V V (Ab V (D4 _ _ _) V (Ai V (AR hv7 Je r1_9 (h.st.at_ hS hlt (hA.sub 9 1))) V (AE V (Ay underlying34) V (Aj call137 V V h.len ?_ Be))))))
             rintro _ w1 ⟨rfl, O1, x1, h⟩
             refine Ae ?_
             refine Af (Aa (Ah V V (Ae ?_)))
             refine A1 (AW (ι := Nat × (Nat → Prop) × XW × World) (fun i => [(0, ptr p), (3, ptr bx), (10, .int .i64 (i.1 : Int))])
              (fun i w' => w' = i.2.2.2 ∧ i.1 ≤ l7.length ∧ XS wb (plus w0 S bx) p most long Od wd (l7.drop i.1 ++ ([])) (BQ most long [a1_0, (.list l2), a1_2, a1_3, a1_4, (.list l3), (.list l4), (.list l5), (.list l6), (.list l7)] ({ x.1 with nest := x.1.nest + 1 }, false)) i.2.1 w' i.2.2.1) (fun i => l7.length - i.1) (0, O1, x1, w1) ⟨V, V, V, trivial⟩ ⟨rfl, Nat.zero_le _, h⟩ ?_)
             clear h
             rintro ⟨i28, O1, x1, _⟩ w1 ⟨rfl, hi, h⟩
             simp only at hi h ⊢
             refine Af (Af (Aa (Ac V V (Ab V (D4 _ _ _) V (Ai V (AR hv7 Je r1_9 (h.st.at_ hS hlt (hA.sub 9 1))) V (AE V (Ay underlying34) V (Al V V (Bh (c := decide (i28 < l7.length)) (decide_eq_decide.2 Int.ofNat_lt.symm)) V (Ae (AK V (fun ht => A_ fun a ha => Ad ?_) (fun hf => AQ fun a ha => Aq (Aq (A3 ?_))))))))))))
             · have hil : i28 < l7.length := of_decide_eq_true ht
               obtain ⟨t29, hti29⟩ : ∃ t, l7[i28]? = some t := ⟨_, List.getElem?_eq_getElem hil⟩
               obtain ⟨b29, o29, ds29, hix29, hS29, hlt29, hA29, hr29⟩ := hget7 i28 t29 hti29
               have hw29 := B5 (List.mem_of_getElem? hti29)
               replace h := h.pop hti29
               refine A8 ha (Af (A1 ?_))
               obtain ⟨fl30, rfl, hlen30, hF30⟩ := hr29.st_inv
               obtain ⟨a30_0, fl30, rfl, r30_0, hF30⟩ := hF30.cons_inv
               obtain ⟨a30_1, fl30, rfl, r30_1, hF30⟩ := hF30.cons_inv
               obtain rfl := hF30.nil_inv
               simp only [Nat.zero_add, Ty.size] at r30_0 r30_1
               obtain ⟨l31, rfl⟩ := r30_1.is_list
               obtain ⟨g31, cap31, hv31, hml31, hget31⟩ := Bn r30_1
               replace h := h.flat rfl
               refine Af (Aa (Ac V V (Ab V (D4 _ _ _) V (Ai V (AR hv7 Je r1_9 (h.st.at_ hS hlt (hA.sub 9 1))) V (Ac V V (A0 V V (hix29 _ underlying34 DF V) V (Ab V (Fz _ _ _) V (Ai V (Ap (f := .str) Cc r30_0 (h.st.at_ hS29 hlt29 (hA29.sub 0 1))) V (Aj call136 V V (h.call DL r30_0) ?_ Be)))))))))
               rintro _ w1 ⟨rfl, O1, x1, h⟩
               refine Ae ?_
               refine Af (Aa (Ac V V (Ab V (D4 _ _ _) V (Ai V (AR hv7 Je r1_9 (h.st.at_ hS hlt (hA.sub 9 1))) V (Ac V V (A0 V V (hix29 _ underlying34 DF V) V (Ab V (Dg _ _ _) V (Ai V (AR hv31 Fp r30_1 (h.st.at_ hS29 hlt29 (hA29.sub 1 1))) V (AE V (Ay underlying160) V (Aj call137 V V h.len ?_ Be))))))))))
               rintro _ w1 ⟨rfl, O1, x1, h⟩
               refine Ae ?_
               refine Af (Aa (Ah V V (Ae ?_)))
               refine A1 (AW (ι := Nat × (Nat → Prop) × XW × World) (fun i => [(0, ptr p), (3, ptr bx), (10, .int .i64 (i28 : Int)), (11, .int .i64 (i.1 : Int))])
                (fun i w' => w' = i.2.2.2 ∧ i.1 ≤ l31.length ∧ XS wb (plus w0 S bx) p most long Od wd (l31.drop i.1 ++ ((l7.drop (i28 + 1) ++ ([])))) (BQ most long [a1_0, (.list l2), a1_2, a1_3, a1_4, (.list l3), (.list l4), (.list l5), (.list l6), (.list l7)] ({ x.1 with nest := x.1.nest + 1 }, false)) i.2.1 w' i.2.2.1) (fun i => l31.length - i.1) (0, O1, x1, w1) ⟨V, V, V, V, trivial⟩ ⟨rfl, Nat.zero_le _, h⟩ ?_)
               clear h
               rintro ⟨i32, O1, x1, _⟩ w1 ⟨rfl, hi, h⟩
               simp only at hi h ⊢
               refine Af (Af (Aa (Ac V V (Ab V (D4 _ _ _) V (Ai V (AR hv7 Je r1_9 (h.st.at_ hS hlt (hA.sub 9 1))) V (Ac V V (A0 V V (hix29 _ underlying34 DF V) V (Ab V (Dg _ _ _) V (Ai V (AR hv31 Fp r30_1 (h.st.at_ hS29 hlt29 (hA29.sub 1 1))) V (AE V (Ay underlying160) V (Al V V (Bh (c := decide (i32 < l31.length)) (decide_eq_decide.2 Int.ofNat_lt.symm)) V (Ae (AK V (fun ht => A_ fun a ha => Ad ?_) (fun hf => AQ fun a ha => Aq (Aq (A3 ?_))))))))))))))))
               · have hil : i32 < l31.length := of_decide_eq_true ht
                 obtain ⟨t33, hti33⟩ : ∃ t, l31[i32]? = some t := ⟨_, List.getElem?_eq_getElem hil⟩
                 obtain ⟨b33, o33, ds33, hix33, hS33, hlt33, hA33, hr33⟩ := hget31 i32 t33 hti33
                 have hw33 := B5 (List.mem_of_getElem? hti33)
                 replace h := h.pop hti33
                 refine A8 ha (Af (A1 ?_))
                 obtain ⟨fl34, rfl, hlen34, hF34⟩ := hr33.st_inv
                 obtain ⟨a34_0, fl34, rfl, r34_0, hF34⟩ := hF34.cons_inv
                 obtain ⟨a34_1, fl34, rfl, r34_1, hF34⟩ := hF34.cons_inv
                 obtain rfl := hF34.nil_inv
                 simp only [Nat.zero_add, Ty.size] at r34_0 r34_1
                 replace h := h.flat rfl
                 refine Af (Aa (Ac V V (Ab V (D4 _ _ _) V (Ai V (AR hv7 Je r1_9 (h.st.at_ hS hlt (hA.sub 9 1))) V (Ac V V (A0 V V (hix29 _ underlying34 DF V) V (Ab V (Dg _ _ _) V (Ai V (AR hv31 Fp r30_1 (h.st.at_ hS29 hlt29 (hA29.sub 1 1))) V (Ac V V (A0 V V (hix33 _ underlying160 Fk V) V (Ab V (I5 _ _ _) V (Ai V (Ap (f := .int) Cj r34_0 (h.st.at_ hS33 hlt33 (hA33.sub 0 1))) V (Aj call139 V V (h.call Ei r34_0) ?_ Be)))))))))))))
                 rintro _ w1 ⟨rfl, O1, x1, h⟩
                 refine Ae ?_
                 refine Aa (Ac V V (Ab V (D4 _ _ _) V (Ai V (AR hv7 Je r1_9 (h.st.at_ hS hlt (hA.sub 9 1))) V (Ac V V (A0 V V (hix29 _ underlying34 DF V) V (Ab V (Dg _ _ _) V (Ai V (AR hv31 Fp r30_1 (h.st.at_ hS29 hlt29 (hA29.sub 1 1))) V (Ac V V (A0 V V (hix33 _ underlying160 Fk V) V (Ab V (I1 _ _ _) V (Ai V (Ap (f := .str) Cc r34_1 (h.st.at_ hS33 hlt33 (hA33.sub 1 1))) V (Aj call136 V V (h.call DL r34_1) ?_ Be))))))))))))
                 rintro _ w1 ⟨rfl, O1, x1, h⟩
                 refine A2 fun a ha => Az (Ad ?_)
                 refine A8 ha (Aa (Ac V V (Al V V V V (Ah V V (A2 fun a ha => Ad ?_)))))
                 exact ⟨(i32 + 1, O1, x1, w1), ha.weak ⟨rfl, rfl, rfl, congrArg some (AS (BS hil hml31)), trivial⟩, ⟨rfl, hil, h⟩, Nat.sub_lt_sub_left hil (Nat.lt_succ_self i32)⟩
               · have hend : i32 = l31.length := Nat.le_antisymm hi (Nat.le_of_not_lt (of_decide_eq_false hf))
                 replace h := h.popped hend
                 refine A8 ha (Aa (Ac V V (Al V V V V (Ah V V (A2 fun a ha => Ad ?_)))))
                 exact ⟨(i28 + 1, O1, x1, w1), ha.weak ⟨rfl, rfl, congrArg some (AS (BS hil hml7)), trivial⟩, ⟨rfl, hil, h⟩, Nat.sub_lt_sub_left hil (Nat.lt_succ_self i28)⟩
             · have hend : i28 = l7.length := Nat.le_antisymm hi (Nat.le_of_not_lt (of_decide_eq_false hf))
               replace h := h.popped hend
               obtain ⟨ff, hs⟩ := h.fin
               have hnn : (BQ most long [a1_0, (.list l2), a1_2, a1_3, a1_4, (.list l3), (.list l4), (.list l5), (.list l6), (.list l7)] ({ x.1 with nest := x.1.nest + 1 }, false)).1.nest = x.1.nest + 1 := (Ef (most := most) (long := long) [a1_0, (.list l2), a1_2, a1_3, a1_4, (.list l3), (.list l4), (.list l5), (.list l6), (.list l7)] ({ x.1 with nest := x.1.nest + 1 }, false) (FN hu)).2
               have e := Ix (most := most) (long := long) (l := [a1_0, (.list l2), a1_2, a1_3, a1_4, (.list l3), (.list l4), (.list l5), (.list l6), (.list l7)]) (sn := .sheet) (x := x) rfl hC
               clear h
               generalize BQ most long [a1_0, (.list l2), a1_2, a1_3, a1_4, (.list l3), (.list l4), (.list l5), (.list l6), (.list l7)] ({ x.1 with nest := x.1.nest + 1 }, false) = tgt at hs hnn e
               obtain ⟨_, hc2, _, _, _, setN, _⟩ := hs.flags
               obtain ⟨w2, O2, hstu, fu, hu2⟩ := setN (tgt.1.nest - 1)
               refine A8 ha (Aa (Ac V V (As V V (Ab V (Cw _ _ _) V (Ai V (A4 Hm hc2) V (Al V V (HY hnn (Ft hu)) V (As V V (Ab V (Cw _ _ _) V (An V V hstu (A2 fun a ha => ?_))))))))))
               rw [e]
               exact AV V ha ⟨rfl, O2, (fb.drop (fun _ h => h.elim)).trans (fd.trans (ff.trans fu)), hx.unbase fb hu2⟩
 · have hC : x.2 = true ∨ most < x.1.nest + 1 ∨ long < x.1.b.length := by simpa only [Bool.not_eq_false', decide_eq_true_eq] using hf
   rw [decide_eq_true hC] at hx2
   have hnn : x.1.nest + 1 = x.1.nest + 1 := rfl
   obtain ⟨_, hc2, _, _, _, setN, _⟩ := hx2.flags
   simp only at hc2 setN
   obtain ⟨w2, O2, hstu, fu, hu2⟩ := setN (x.1.nest + 1 - 1)
   refine A8 ha (Aa (Ac V V (As V V (Ab V (Cw _ _ _) V (Ai V (A4 Hm hc2) V (Al V V (HY hnn (Ft hu)) V (As V V (Ab V (Cw _ _ _) V (An V V hstu (A2 fun a ha => ?_))))))))))
   have e := Ip (most := most) (long := long) (l := [a1_0, (.list l2), a1_2, a1_3, a1_4, (.list l3), (.list l4), (.list l5), (.list l6), (.list l7)]) (sn := .sheet) (x := x) rfl hC
   rw [e]
   exact AV V ha ⟨rfl, O2, (fb.drop (fun _ h => h.elim)).trans (fd.trans fu), hx.unbase fb hu2⟩
theorem Pq {t : T} : E4 88 (.st .sheet) t := Sr t.wt t (Nat.le_refl _)
end Go.Sx
