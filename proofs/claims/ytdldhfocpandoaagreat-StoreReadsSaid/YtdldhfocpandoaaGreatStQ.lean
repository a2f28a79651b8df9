import Derived.Test.YtdldhfocpandoaaGreatStP
set_option maxHeartbeats 8000000
set_option maxRecDepth 8000
namespace Go.Sx
open Go.Proofs Go.Proofs.Tryz
theorem RV : ∀ (N : Nat) (t u : T), t.wt ≤ N → SEnc 94 (.st .expr) t u := by
 intro N
 induction N using Nat.strongRecOn with
 | _ N IH =>
 intro t u hN w S cs ds hr hk
 refine AB 116 func94 V V V ?_
 refine Af (Aa (Cd (v := .agg cs.toArray) V V ?_))
 have fa : F0 w (w.alloc (.cells cs.toArray 66)) := Fr.alloc _ _ _
 have aba : Blk (w.alloc (.cells cs.toArray 66)) w.heap.size cs 66 := AN
 show WL _ _ _ _ _ _ _ (w.alloc (.cells cs.toArray 66))
 generalize w.alloc (.cells cs.toArray 66) = wa at fa aba ⊢
 generalize w.heap.size = bxa at aba ⊢
 refine Cd (v := .agg ds.toArray) V V ?_
 have fb : F0 wa (wa.alloc (.cells ds.toArray 66)) := Fr.alloc _ _ _
 have abb : Blk (wa.alloc (.cells ds.toArray 66)) wa.heap.size ds 66 := AN
 show WL _ _ _ _ _ _ _ (wa.alloc (.cells ds.toArray 66))
 generalize wa.alloc (.cells ds.toArray 66) = wb at fb abb ⊢
 generalize wa.heap.size = bxb at abb ⊢
 have fw : F0 w wb := fa.trans fb
 replace aba : Blk wb bxa cs 66 := (fb.blk _ aba.lt (fun h => h)).trans aba
 have ra := hr.fresh fw
 have rb := hk.fresh fw
 have hlta := aba.lt
 have hltb := abb.lt
 have hAa := aba.all
 have hAb := abb.all
 have h : F0 wb wb := Fr.refl _ _
 obtain ⟨fla, rfl, hlena, hFa⟩ := ra.st_inv
 obtain ⟨aa_0, fla, rfl, ra_0, hFa⟩ := hFa.cons_inv
 obtain ⟨aa_1, fla, rfl, ra_1, hFa⟩ := hFa.cons_inv
 obtain ⟨aa_2, fla, rfl, ra_2, hFa⟩ := hFa.cons_inv
 obtain ⟨aa_3, fla, rfl, ra_3, hFa⟩ := hFa.cons_inv
 obtain ⟨aa_4, fla, rfl, ra_4, hFa⟩ := hFa.cons_inv
 obtain ⟨aa_5, fla, rfl, ra_5, hFa⟩ := hFa.cons_inv
 obtain ⟨aa_6, fla, rfl, ra_6, hFa⟩ := hFa.cons_inv
 obtain ⟨aa_7, fla, rfl, ra_7, hFa⟩ := hFa.cons_inv
 obtain ⟨aa_8, fla, rfl, ra_8, hFa⟩ := hFa.cons_inv
 obtain ⟨aa_9, fla, rfl, ra_9, hFa⟩ := hFa.cons_inv
 obtain rfl := hFa.nil_inv
 simp only [Nat.zero_add, Nat.reduceAdd, Ty.size, SN.size] at ra_0 ra_1 ra_2 ra_3 ra_4 ra_5 ra_6 ra_7 ra_8 ra_9
 obtain ⟨flb, rfl, hlenb, hFb⟩ := rb.st_inv
 obtain ⟨ab_0, flb, rfl, rb_0, hFb⟩ := hFb.cons_inv
 obtain ⟨ab_1, flb, rfl, rb_1, hFb⟩ := hFb.cons_inv
 obtain ⟨ab_2, flb, rfl, rb_2, hFb⟩ := hFb.cons_inv
 obtain ⟨ab_3, flb, rfl, rb_3, hFb⟩ := hFb.cons_inv
 obtain ⟨ab_4, flb, rfl, rb_4, hFb⟩ := hFb.cons_inv
 obtain ⟨ab_5, flb, rfl, rb_5, hFb⟩ := hFb.cons_inv
 obtain ⟨ab_6, flb, rfl, rb_6, hFb⟩ := hFb.cons_inv
 obtain ⟨ab_7, flb, rfl, rb_7, hFb⟩ := hFb.cons_inv
 obtain ⟨ab_8, flb, rfl, rb_8, hFb⟩ := hFb.cons_inv
 obtain ⟨ab_9, flb, rfl, rb_9, hFb⟩ := hFb.cons_inv
 obtain rfl := hFb.nil_inv
 simp only [Nat.zero_add, Nat.reduceAdd, Ty.size, SN.size] at rb_0 rb_1 rb_2 rb_3 rb_4 rb_5 rb_6 rb_7 rb_8 rb_9
 refine Ah V V (Ar [(2, ptr bxa), (3, ptr bxb)] ⟨V, V, trivial⟩ ?_)
 obtain ⟨w1, hw1⟩ : ∃ w1, w1 = wb := ⟨_, rfl⟩
 rw [← hw1]
 have h : F0 wb w1 := by rw [hw1]; exact h
 clear hw1
 obtain ⟨la8, rfl⟩ := ra_8.is_list
 obtain ⟨ga8, capa8, hva8, hmla8, hgeta8⟩ := Bn ra_8
 obtain ⟨la9, rfl⟩ := ra_9.is_list
 obtain ⟨ga9, capa9, hva9, hmla9, hgeta9⟩ := Bn ra_9
 obtain ⟨lb8, rfl⟩ := rb_8.is_list
 obtain ⟨gb8, capb8, hvb8, hmlb8, hgetb8⟩ := Bn rb_8
 obtain ⟨lb9, rfl⟩ := rb_9.is_list
 obtain ⟨gb9, capb9, hvb9, hmlb9, hgetb9⟩ := Bn rb_9
 refine Af (Af (Aa ?_))
 refine Ab V (EB _ _ _) V (Ai V (AR hva8 D_ ra_8 (h.at_ hlta (hAa.sub 14 1))) V (AE V (Ay underlying44) V (Ab V (EB _ _ _) V (Ai V (AR hvb8 D_ rb_8 (h.at_ hltb (hAb.sub 14 1))) V (AE V (Ay underlying44) V (?_))))))
 cases hn1 : decide (la8.length ≠ lb8.length) with
 | true =>
  refine Al V V (BO (c := true) (hn1.symm.trans BZ)) V ?_
  refine AY _ _ _ V (Ae (Ax V ?_))
  exact Af (Aa (Ah V V (Ae (AA fun a ha => Ao (Au V ha V ⟨by rw [BL (fun e => by cases e; simp at hn1)], fw.trans h⟩)))))
 | false =>
  refine Al V V (BO (c := false) (hn1.symm.trans BZ)) V (Ac V V (Ag (j := 7) V V V (Ab V (E_ _ _ _) V (Ag (j := 7) V V V (Ai V (AR hva9 Eh ra_9 (h.at_ hlta (hAa.sub 15 1))) V (Ag (j := 7) V V V (AE V (Ay underlying64) V (Ag (j := 7) V V V (Ab V (E_ _ _ _) V (Ag (j := 7) V V V (Ai V (AR hvb9 Eh rb_9 (h.at_ hltb (hAb.sub 15 1))) V (Ag (j := 7) V V V (AE V (Ay underlying64) V (?_))))))))))))))
  cases hn2 : decide (la9.length ≠ lb9.length) with
  | true =>
   refine Ag (j := 7) V V V (Al V V (BO (c := true) (hn2.symm.trans BZ)) V ?_)
   refine AY _ _ _ V (Ae (Ax V ?_))
   exact Af (Aa (Ah V V (Ae (AA fun a ha => Ao (Au V ha V ⟨by rw [BL (fun e => by cases e; simp at hn2)], fw.trans h⟩)))))
  | false =>
   refine Ag (j := 7) V V V (Al V V (BO (c := false) (hn2.symm.trans BZ)) V (AI V V V (Ac V V (Ag (j := 16) V V V (Ab V (HR _ _ _) V (Ag (j := 16) V V V (Ai V (Ap (f := .int) Cj ra_0 (h.at_ hlta (hAa.sub 0 1))) V (Ag (j := 16) V V V (Ab V (HR _ _ _) V (Ag (j := 16) V V V (Ai V (Ap (f := .int) Cj rb_0 (h.at_ hltb (hAb.sub 0 1))) V (?_))))))))))))
   cases hq3 : C6 aa_0 ab_0 with
   | false =>
    refine Ag (j := 16) V V V (AG V V (neq3.guard ra_0 rb_0 _ _ _) (neq3.run' hq3 ra_0 rb_0 _) V ?_)
    refine AY _ _ _ V (Ae (Ax V ?_))
    exact Af (Aa (Ah V V (Ae (AA fun a ha => Ao (Au V ha V ⟨by rw [BL (fun e => by cases e; exact Bd hq3 V)], fw.trans h⟩)))))
   | true =>
    refine Ag (j := 16) V V V (AG V V (neq3.guard ra_0 rb_0 _ _ _) (neq3.run' hq3 ra_0 rb_0 _) V (AI V V V (Ac V V (Ag (j := 23) V V V (Ab V (Ie _ _ _) V (Ag (j := 23) V V V (Ai V (Ap (f := .str) Cc ra_1 (h.at_ hlta (hAa.sub 1 1))) V (Ag (j := 23) V V V (Ab V (Ie _ _ _) V (Ag (j := 23) V V V (Ai V (Ap (f := .str) Cc rb_1 (h.at_ hltb (hAb.sub 1 1))) V (?_))))))))))))
    cases hq4 : C6 aa_1 ab_1 with
    | false =>
     refine Ag (j := 23) V V V (AG V V (neq9.guard ra_1 rb_1 _ _ _) (neq9.run' hq4 ra_1 rb_1 _) V ?_)
     refine AY _ _ _ V (Ae (Ax V ?_))
     exact Af (Aa (Ah V V (Ae (AA fun a ha => Ao (Au V ha V ⟨by rw [BL (fun e => by cases e; exact Bd hq4 V)], fw.trans h⟩)))))
    | true =>
     refine Ag (j := 23) V V V (AG V V (neq9.guard ra_1 rb_1 _ _ _) (neq9.run' hq4 ra_1 rb_1 _) V (AI V V V (Ac V V (Ag (j := 30) V V V (Ab V (HV _ _ _) V (Ag (j := 30) V V V (Ai V (Ap (f := .str) Cc ra_2 (h.at_ hlta (hAa.sub 2 1))) V (Ag (j := 30) V V V (Ab V (HV _ _ _) V (Ag (j := 30) V V V (Ai V (Ap (f := .str) Cc rb_2 (h.at_ hltb (hAb.sub 2 1))) V (?_))))))))))))
     cases hq5 : C6 aa_2 ab_2 with
     | false =>
      refine Ag (j := 30) V V V (AG V V (neq9.guard ra_2 rb_2 _ _ _) (neq9.run' hq5 ra_2 rb_2 _) V ?_)
      refine AY _ _ _ V (Ae (Ax V ?_))
      exact Af (Aa (Ah V V (Ae (AA fun a ha => Ao (Au V ha V ⟨by rw [BL (fun e => by cases e; exact Bd hq5 V)], fw.trans h⟩)))))
     | true =>
      refine Ag (j := 30) V V V (AG V V (neq9.guard ra_2 rb_2 _ _ _) (neq9.run' hq5 ra_2 rb_2 _) V (AI V V V (Ac V V (Ag (j := 37) V V V (Ab V (HA _ _ _) V (Ag (j := 37) V V V (Ai V (Ap (f := .int) Cj ra_3 (h.at_ hlta (hAa.sub 3 1))) V (Ag (j := 37) V V V (Ab V (HA _ _ _) V (Ag (j := 37) V V V (Ai V (Ap (f := .int) Cj rb_3 (h.at_ hltb (hAb.sub 3 1))) V (?_))))))))))))
      cases hq6 : C6 aa_3 ab_3 with
      | false =>
       refine Ag (j := 37) V V V (AG V V (neq3.guard ra_3 rb_3 _ _ _) (neq3.run' hq6 ra_3 rb_3 _) V ?_)
       refine AY _ _ _ V (Ae (Ax V ?_))
       exact Af (Aa (Ah V V (Ae (AA fun a ha => Ao (Au V ha V ⟨by rw [BL (fun e => by cases e; exact Bd hq6 V)], fw.trans h⟩)))))
      | true =>
       refine Ag (j := 37) V V V (AG V V (neq3.guard ra_3 rb_3 _ _ _) (neq3.run' hq6 ra_3 rb_3 _) V (AI V V V (Ac V V (Ag (j := 44) V V V (Ab V (EA _ _ _) V (Ag (j := 44) V V V (Ai V (Ap (f := .st .atom) Pw ra_4 (h.at_ hlta (hAa.sub 4 2))) V (Ag (j := 44) V V V (Ab V (EA _ _ _) V (Ag (j := 44) V V V (Ai V (Ap (f := .st .atom) Pw rb_4 (h.at_ hltb (hAb.sub 4 2))) V (?_))))))))))))
       cases hq7 : C6 aa_4 ab_4 with
       | false =>
        refine Ag (j := 44) V V V (AG V V (neq59.guard ra_4 rb_4 _ _ _) (neq59.run' hq7 ra_4 rb_4 _) V ?_)
        refine AY _ _ _ V (Ae (Ax V ?_))
        exact Af (Aa (Ah V V (Ae (AA fun a ha => Ao (Au V ha V ⟨by rw [BL (fun e => by cases e; exact Bd hq7 V)], fw.trans h⟩)))))
       | true =>
        refine Ag (j := 44) V V V (AG V V (neq59.guard ra_4 rb_4 _ _ _) (neq59.run' hq7 ra_4 rb_4 _) V (AI V V V (Ac V V (Ag (j := 51) V V V (Ab V (HO _ _ _) V (Ag (j := 51) V V V (Ai V (Ap (f := .int) Cj ra_5 (h.at_ hlta (hAa.sub 6 1))) V (Ag (j := 51) V V V (Ab V (HO _ _ _) V (Ag (j := 51) V V V (Ai V (Ap (f := .int) Cj rb_5 (h.at_ hltb (hAb.sub 6 1))) V (?_))))))))))))
        cases hq8 : C6 aa_5 ab_5 with
        | false =>
         refine Ag (j := 51) V V V (AG V V (neq3.guard ra_5 rb_5 _ _ _) (neq3.run' hq8 ra_5 rb_5 _) V ?_)
         refine AY _ _ _ V (Ae (Ax V ?_))
         exact Af (Aa (Ah V V (Ae (AA fun a ha => Ao (Au V ha V ⟨by rw [BL (fun e => by cases e; exact Bd hq8 V)], fw.trans h⟩)))))
        | true =>
         refine Ag (j := 51) V V V (AG V V (neq3.guard ra_5 rb_5 _ _ _) (neq3.run' hq8 ra_5 rb_5 _) V (AI V V V (Ac V V (Ag (j := 58) V V V (Ab V (Hw _ _ _) V (Ag (j := 58) V V V (Ai V (Ap (f := .st .test) IL ra_6 (h.at_ hlta (hAa.sub 7 2))) V (Ag (j := 58) V V V (Ab V (Hw _ _ _) V (Ag (j := 58) V V V (Ai V (Ap (f := .st .test) IL rb_6 (h.at_ hltb (hAb.sub 7 2))) V (?_))))))))))))
         cases hq9 : C6 aa_6 ab_6 with
         | false =>
          refine Ag (j := 58) V V V (AG V V (neq61.guard ra_6 rb_6 _ _ _) (neq61.run' hq9 ra_6 rb_6 _) V ?_)
          refine AY _ _ _ V (Ae (Ax V ?_))
          exact Af (Aa (Ah V V (Ae (AA fun a ha => Ao (Au V ha V ⟨by rw [BL (fun e => by cases e; exact Bd hq9 V)], fw.trans h⟩)))))
         | true =>
          refine Ag (j := 58) V V V (AG V V (neq61.guard ra_6 rb_6 _ _ _) (neq61.run' hq9 ra_6 rb_6 _) V (AI V V V (Ac V V (Ag (j := 65) V V V (Ab V (HW _ _ _) V (Ag (j := 65) V V V (Ai V (Ap (f := .st .type) D9 ra_7 (h.at_ hlta (hAa.sub 9 5))) V (Ag (j := 65) V V V (Ab V (HW _ _ _) V (Ag (j := 65) V V V (Ai V (Ap (f := .st .type) D9 rb_7 (h.at_ hltb (hAb.sub 9 5))) V (?_))))))))))))
          cases hq10 : C6 aa_7 ab_7 with
          | false =>
           refine Ag (j := 65) V V V (AG V V (neq63.guard ra_7 rb_7 _ _ _) (neq63.run' hq10 ra_7 rb_7 _) V ?_)
           refine AY _ _ _ V (Ae (Ax V ?_))
           exact Af (Aa (Ah V V (Ae (AA fun a ha => Ao (Au V ha V ⟨by rw [BL (fun e => by cases e; exact Bd hq10 V)], fw.trans h⟩)))))
          | true =>
           refine Ag (j := 65) V V V (AG V V (neq63.guard ra_7 rb_7 _ _ _) (neq63.run' hq10 ra_7 rb_7 _) V (AI V V V (Ae (A9 V (A_ fun a ha => Ad ?_)))))
           refine A8 ha (Dc [(2, ptr bxa), (3, ptr bxb)] ⟨V, V, trivial⟩ ?_)
           have hle8 : la8.length = lb8.length := Classical.byContradiction (of_decide_eq_false hn1)
           have hle9 : la9.length = lb9.length := Classical.byContradiction (of_decide_eq_false hn2)
           refine Af (Af (Aa (Ah V V (Ae ?_))))
           refine A1 (AW (ι := Nat × World) (fun i => [(2, ptr bxa), (3, ptr bxb), (5, .int .i64 (i.1 : Int))]) (fun i w' => w' = i.2 ∧ i.1 ≤ la8.length ∧ F0 wb w' ∧ ∀ j, j < i.1 → la8[j]? = lb8[j]?) (fun i => la8.length - i.1)
            (0, w1) ⟨V, V, V, trivial⟩ ⟨rfl, Nat.zero_le _, h, fun j hj => absurd hj (Nat.not_lt_zero j)⟩ ?_)
           clear h
           rintro ⟨i11, _⟩ w1 ⟨rfl, hi, h, halli11⟩
           simp only at hi h halli11 ⊢
           refine Af (Af (Aa (Ac V V (Ab V (EB _ _ _) V (Ai V (AR hva8 D_ ra_8 (h.at_ hlta (hAa.sub 14 1))) V (AE V (Ay underlying44) V (Al V V (Bh (c := decide (i11 < la8.length)) (decide_eq_decide.2 Int.ofNat_lt.symm)) V (Ae (AK V (fun ht => A_ fun a ha => Ad ?_) (fun hf => AQ fun a ha => Aq (Aq (A3 (Ad ?_)))))))))))))
           · have hil : i11 < la8.length := of_decide_eq_true ht
             obtain ⟨txi11, htxi11⟩ : ∃ t, la8[i11]? = some t := ⟨_, List.getElem?_eq_getElem hil⟩
             obtain ⟨tyi11, htyi11⟩ : ∃ t, lb8[i11]? = some t := ⟨_, List.getElem?_eq_getElem (hle8 ▸ hil)⟩
             have hwxi11 := B5 (List.mem_of_getElem? htxi11)
             obtain ⟨bxi11, oxi11, dxi11, hixxi11, _, hltxi11, hAxi11, rxi11⟩ := hgeta8 i11 txi11 htxi11
             obtain ⟨byi11, oyi11, dyi11, hixyi11, _, hltyi11, hAyi11, ryi11⟩ := hgetb8 i11 tyi11 htyi11
             refine A8 ha (Af (A1 (Af (C_ (F0 wb) CE (by kernel_rfl) h.drawn ?_))))
             clear h
             refine A5 V (fun w => EB w _ _) V (AM V (fun w h => AR hva8 D_ ra_8 (h.at_ hlta (hAa.sub 14 1))) V (A6 V V (AC V V (fun w => hixxi11 w underlying44 Cc V) V (AM V (fun w h => Ap (f := .str) Cc rxi11 (h.at_ hltxi11 hAxi11)) V (A5 V (fun w => EB w _ _) V (AM V (fun w h => AR hvb8 D_ rb_8 (h.at_ hltb (hAb.sub 14 1))) V (A6 V V (AC V V (fun w => hixyi11 w underlying44 Cc V) V (AM V (fun w h => Ap (f := .str) Cc ryi11 (h.at_ hltyi11 hAyi11)) V (?_))))))))))
             cases hq12 : C6 txi11 tyi11 with
             | false =>
              refine Bc V V (neq9.guard rxi11 ryi11 _ _) (neq9.run' hq12 rxi11 ryi11) V ?_
              refine BI _ _ _ V (Bm fun w1 h => Ax V ?_)
              exact Af (Aa (Ah V V (Ae (AA fun a ha => Aw (Ao (Ao (Aw (Ao (Au V ha V ⟨by rw [BL (fun e => by cases e; exact absurd (Option.some.inj (htxi11.symm.trans htyi11)) (Bd hq12))], fw.trans h⟩)))))))))
             | true =>
              refine Bc V V (neq9.guard rxi11 ryi11 _ _) (neq9.run' hq12 rxi11 ryi11) V (Bm fun w1 h => A9 V (A_ fun a ha => Az (Ad ?_)))
              refine A8 ha (Aa (Ac V V (Al V V V V (Ah V V (A2 fun a ha => Ad ?_)))))
              exact ⟨(i11 + 1, w1), ha.weak ⟨rfl, rfl, congrArg some (AS (BS hil hmla8)), trivial⟩, ⟨rfl, hil, h, C9 halli11 htxi11 htyi11 (AZ hq12)⟩, Nat.sub_lt_sub_left hil (Nat.lt_succ_self i11)⟩
           · have hend : i11 = la8.length := Nat.le_antisymm hi (Nat.le_of_not_lt (of_decide_eq_false hf))
             have hls8 := AZ (CA hle8 hend halli11)
             refine A8 ha (Dc [(2, ptr bxa), (3, ptr bxb)] ⟨V, V, trivial⟩ ?_)
             refine Af (Af (Aa (Ah V V (Ae ?_))))
             refine A1 (AW (ι := Nat × World) (fun i => [(2, ptr bxa), (3, ptr bxb), (6, .int .i64 (i.1 : Int))]) (fun i w' => w' = i.2 ∧ i.1 ≤ la9.length ∧ F0 wb w' ∧ ∀ j, j < i.1 → la9[j]? = lb9[j]?) (fun i => la9.length - i.1)
              (0, w1) ⟨V, V, V, trivial⟩ ⟨rfl, Nat.zero_le _, h, fun j hj => absurd hj (Nat.not_lt_zero j)⟩ ?_)
             clear h
             rintro ⟨i13, _⟩ w1 ⟨rfl, hi, h, halli13⟩
             simp only at hi h halli13 ⊢
             refine Af (Af (Aa (Ac V V (Ab V (E_ _ _ _) V (Ai V (AR hva9 Eh ra_9 (h.at_ hlta (hAa.sub 15 1))) V (AE V (Ay underlying64) V (Al V V (Bh (c := decide (i13 < la9.length)) (decide_eq_decide.2 Int.ofNat_lt.symm)) V (Ae (AK V (fun ht => A_ fun a ha => Ad ?_) (fun hf => AQ fun a ha => Aq (Aq (A3 (Ad ?_)))))))))))))
             · have hil : i13 < la9.length := of_decide_eq_true ht
               obtain ⟨txi13, htxi13⟩ : ∃ t, la9[i13]? = some t := ⟨_, List.getElem?_eq_getElem hil⟩
               obtain ⟨tyi13, htyi13⟩ : ∃ t, lb9[i13]? = some t := ⟨_, List.getElem?_eq_getElem (hle9 ▸ hil)⟩
               have hwxi13 := B5 (List.mem_of_getElem? htxi13)
               obtain ⟨bxi13, oxi13, dxi13, hixxi13, _, hltxi13, hAxi13, rxi13⟩ := hgeta9 i13 txi13 htxi13
               obtain ⟨byi13, oyi13, dyi13, hixyi13, _, hltyi13, hAyi13, ryi13⟩ := hgetb9 i13 tyi13 htyi13
               refine A8 ha (Af (A1 (Af (C_ (F0 wb) CE (by kernel_rfl) h.drawn ?_))))
               clear h
               refine A5 V (fun w => E_ w _ _) V (AM V (fun w h => AR hva9 Eh ra_9 (h.at_ hlta (hAa.sub 15 1))) V (A6 V V (AC V V (fun w => hixxi13 w underlying64 BY V) V (AM V (fun w h => Ap (f := .st .expr) BY rxi13 (h.at_ hltxi13 hAxi13)) V (A5 V (fun w => E_ w _ _) V (AM V (fun w h => AR hvb9 Eh rb_9 (h.at_ hltb (hAb.sub 15 1))) V (A6 V V (AC V V (fun w => hixyi13 w underlying64 BY V) V (AM V (fun w h => Ap (f := .st .expr) BY ryi13 (h.at_ hltyi13 hAyi13)) V (?_))))))))))
               cases hq14 : C6 txi13 tyi13 with
               | false =>
                refine Cf call94 V V (SEnc.quiet (IH _ (Nat.lt_trans (IC hwxi13) (KV (by simp) hN)) _ _ (Nat.le_refl _)) hq14 rxi13 ryi13) (C4 V V ?_)
                refine BI _ _ _ V (Bm fun w1 h => Ax V ?_)
                exact Af (Aa (Ah V V (Ae (AA fun a ha => Aw (Ao (Ao (Aw (Ao (Au V ha V ⟨by rw [BL (fun e => by cases e; exact absurd (Option.some.inj (htxi13.symm.trans htyi13)) (Bd hq14))], fw.trans h⟩)))))))))
               | true =>
                refine Cf call94 V V (SEnc.quiet (IH _ (Nat.lt_trans (IC hwxi13) (KV (by simp) hN)) _ _ (Nat.le_refl _)) hq14 rxi13 ryi13) (C4 V V (Bm fun w1 h => A9 V (A_ fun a ha => Az (Ad ?_))))
                refine A8 ha (Aa (Ac V V (Al V V V V (Ah V V (A2 fun a ha => Ad ?_)))))
                exact ⟨(i13 + 1, w1), ha.weak ⟨rfl, rfl, congrArg some (AS (BS hil hmla9)), trivial⟩, ⟨rfl, hil, h, C9 halli13 htxi13 htyi13 (AZ hq14)⟩, Nat.sub_lt_sub_left hil (Nat.lt_succ_self i13)⟩
             · have hend : i13 = la9.length := Nat.le_antisymm hi (Nat.le_of_not_lt (of_decide_eq_false hf))
               have hls9 := AZ (CA hle9 hend halli13)
               refine A8 ha (Dc [(2, ptr bxa), (3, ptr bxb)] ⟨V, V, trivial⟩ ?_)
               exact Af (Aa (Ah V V (Ae (AA fun a ha => Au V ha V ⟨by rw [EJ (by rw [AZ hq3, AZ hq4, AZ hq5, AZ hq6, AZ hq7, AZ hq8, AZ hq9, AZ hq10, hls8, hls9])], fw.trans h⟩))))
theorem sX (t u : T) : SEnc 94 (.st .expr) t u := RV t.wt t u (Nat.le_refl _)
theorem Ni {t u : T} : SEnc 90 (.list (.st .expr)) t u := Sh (fun _ _ _ => sX _ _)
end Go.Sx
namespace Go.Sx
open Go.Proofs Go.Proofs.Tryz
theorem Rr {t u : T} (ih : ∀ t' u', t'.wt < t.wt → SEnc 93 (.list (.st .instr)) t' u') : SEnc 92 (.list (.st .param)) t u := by
 intro w S cs ds hr hk
 obtain ⟨la, rfl⟩ := hr.is_list
 obtain ⟨lb, rfl⟩ := hk.is_list
 obtain ⟨ga, capa, hva, hmla, hgeta⟩ := Bn hr
 obtain ⟨gb, capb, hvb, hmlb, hgetb⟩ := Bn hk
 rw [hva, hvb]
 refine AB 82 func92 V V V ?_
 refine Af (Aa (Ah V V (Ae ?_)))
 refine Af (Af (Aa (Ac V V (AE V (Ay underlying68) V (Ac V V (AE V (Ay underlying68) V (Al V V (BO (c := decide (la.length ≠ lb.length)) BZ) V (Ae (AK V (fun ht => ?_) (fun hf => A_ fun a ha => Ad ?_))))))))))
 · have hne : la.length ≠ lb.length := of_decide_eq_true ht
   refine Af (Aa (Ah V V (Ae (AA fun a ha => Ao (Au V ha V ⟨by rw [Da hne], Fr.refl _ _⟩)))))
 have hle : la.length = lb.length := Classical.byContradiction (of_decide_eq_false hf)
 refine A8 ha (Af (Af (Aa (Ah V V (Ae ?_)))))
 refine A1 (AW (ι := Nat × World) (fun i => [(0, .slice ga la.length capa), (1, .slice gb lb.length capb), (5, .int .i64 (i.1 : Int))]) (fun i w' => w' = i.2 ∧ i.1 ≤ la.length ∧ F0 w w' ∧ ∀ j, j < i.1 → la[j]? = lb[j]?) (fun i => la.length - i.1)
  (0, w) ⟨V, V, V, trivial⟩ ⟨rfl, Nat.zero_le _, Fr.refl _ _, fun j hj => absurd hj (Nat.not_lt_zero j)⟩ ?_)
 rintro ⟨i, _⟩ w1 ⟨rfl, hi, h, hall⟩
 simp only at hi h hall ⊢
 refine Af (Af (Aa (Ac V V (Ac V V (AE V (Ay underlying68) V (Al V V (Bh (c := decide (i < la.length)) (decide_eq_decide.2 Int.ofNat_lt.symm)) V (Ae (AK V (fun ht => A_ fun a ha => Ad ?_) (fun hf => AQ fun a ha => Aq (Aq (A3 (Ad ?_))))))))))))
 · have hil : i < la.length := of_decide_eq_true ht
   obtain ⟨ta, hta⟩ : ∃ t, la[i]? = some t := ⟨_, List.getElem?_eq_getElem hil⟩
   obtain ⟨tb, htb⟩ : ∃ t, lb[i]? = some t := ⟨_, List.getElem?_eq_getElem (hle ▸ hil)⟩
   have hwa := B5 (List.mem_of_getElem? hta)
   obtain ⟨ba, oa, da, hixa, _, hlta, hAa, ra⟩ := hgeta i ta hta
   obtain ⟨bb, ob, db, hixb, _, hltb, hAb, rb⟩ := hgetb i tb htb
   obtain ⟨fla, rfl, hlena, hFa⟩ := ra.st_inv
   obtain ⟨aa_0, fla, rfl, ra_0, hFa⟩ := hFa.cons_inv
   obtain ⟨aa_1, fla, rfl, ra_1, hFa⟩ := hFa.cons_inv
   obtain ⟨aa_2, fla, rfl, ra_2, hFa⟩ := hFa.cons_inv
   obtain ⟨aa_3, fla, rfl, ra_3, hFa⟩ := hFa.cons_inv
   obtain ⟨aa_4, fla, rfl, ra_4, hFa⟩ := hFa.cons_inv
   obtain rfl := hFa.nil_inv
   simp only [Nat.zero_add, Nat.reduceAdd, Ty.size, SN.size] at ra_0 ra_1 ra_2 ra_3 ra_4
   obtain ⟨flb, rfl, hlenb, hFb⟩ := rb.st_inv
   obtain ⟨ab_0, flb, rfl, rb_0, hFb⟩ := hFb.cons_inv
   obtain ⟨ab_1, flb, rfl, rb_1, hFb⟩ := hFb.cons_inv
   obtain ⟨ab_2, flb, rfl, rb_2, hFb⟩ := hFb.cons_inv
   obtain ⟨ab_3, flb, rfl, rb_3, hFb⟩ := hFb.cons_inv
   obtain ⟨ab_4, flb, rfl, rb_4, hFb⟩ := hFb.cons_inv
   obtain rfl := hFb.nil_inv
   simp only [Nat.zero_add, Nat.reduceAdd, Ty.size, SN.size] at rb_0 rb_1 rb_2 rb_3 rb_4
   refine A8 ha (Af (A1 (Af (C_ (F0 w) CE (by kernel_rfl) h.drawn ?_))))
   clear h
   refine A6 V V (A6 V V (AC V V (fun w => hixa w underlying68 D2 V) V (A5 V (fun w => Gg w _ _) V (AM V (fun w h => Ap (f := .str) Cc ra_0 (h.at_ hlta (hAa.sub 0 1))) V (A6 V V (A6 V V (AC V V (fun w => hixb w underlying68 D2 V) V (A5 V (fun w => Gg w _ _) V (AM V (fun w h => Ap (f := .str) Cc rb_0 (h.at_ hltb (hAb.sub 0 1))) V (?_))))))))))
   cases hq1 : C6 aa_0 ab_0 with
   | false =>
    refine Bc V V (neq9.guard ra_0 rb_0 _ _) (neq9.run' hq1 ra_0 rb_0) V ?_
    refine BI _ _ _ V (Bm fun w1 h => Ax V ?_)
    exact Af (Aa (Ah V V (Ae (AA fun a ha => Aw (Ao (Ao (Aw (Ao (Au V ha V ⟨by rw [Bj hta htb (fun e => by cases e; exact Bd hq1 V)], h⟩)))))))))
   | true =>
    refine Bc V V (neq9.guard ra_0 rb_0 _ _) (neq9.run' hq1 ra_0 rb_0) V (A6 V V (Ak (j := 11) V V V (A6 V V (Ak (j := 11) V V V (A6 V V (Ak (j := 11) V V V (AC V V (fun w => hixa w underlying68 D2 V) V (Ak (j := 11) V V V (A5 V (fun w => Gm w _ _) V (Ak (j := 11) V V V (AM V (fun w h => Ap (f := .st .type) D9 ra_1 (h.at_ hlta (hAa.sub 1 5))) V (Ak (j := 11) V V V (A6 V V (Ak (j := 11) V V V (A6 V V (Ak (j := 11) V V V (AC V V (fun w => hixb w underlying68 D2 V) V (Ak (j := 11) V V V (A5 V (fun w => Gm w _ _) V (Ak (j := 11) V V V (AM V (fun w h => Ap (f := .st .type) D9 rb_1 (h.at_ hltb (hAb.sub 1 5))) V (?_))))))))))))))))))))))
    cases hq2 : C6 aa_1 ab_1 with
    | false =>
     refine Ak (j := 11) V V V (Bc V V (neq63.guard ra_1 rb_1 _ _) (neq63.run' hq2 ra_1 rb_1) V ?_)
     refine BI _ _ _ V (Bm fun w1 h => Ax V ?_)
     exact Af (Aa (Ah V V (Ae (AA fun a ha => Aw (Ao (Ao (Aw (Ao (Au V ha V ⟨by rw [Bj hta htb (fun e => by cases e; exact Bd hq2 V)], h⟩)))))))))
    | true =>
     refine Ak (j := 11) V V V (Bc V V (neq63.guard ra_1 rb_1 _ _) (neq63.run' hq2 ra_1 rb_1) V (BM V V V (A6 V V (Ak (j := 24) V V V (A6 V V (Ak (j := 24) V V V (A6 V V (Ak (j := 24) V V V (AC V V (fun w => hixa w underlying68 D2 V) V (Ak (j := 24) V V V (A5 V (fun w => F8 w _ _) V (Ak (j := 24) V V V (AM V (fun w h => Ap (f := .bool) Dp ra_2 (h.at_ hlta (hAa.sub 6 1))) V (Ak (j := 24) V V V (A6 V V (Ak (j := 24) V V V (A6 V V (Ak (j := 24) V V V (AC V V (fun w => hixb w underlying68 D2 V) V (Ak (j := 24) V V V (A5 V (fun w => F8 w _ _) V (Ak (j := 24) V V V (AM V (fun w h => Ap (f := .bool) Dp rb_2 (h.at_ hltb (hAb.sub 6 1))) V (?_))))))))))))))))))))))))
     cases hq3 : C6 aa_2 ab_2 with
     | false =>
      refine Ak (j := 24) V V V (Bc V V (neq4.guard ra_2 rb_2 _ _) (neq4.run' hq3 ra_2 rb_2) V ?_)
      refine BI _ _ _ V (Bm fun w1 h => Ax V ?_)
      exact Af (Aa (Ah V V (Ae (AA fun a ha => Aw (Ao (Ao (Aw (Ao (Au V ha V ⟨by rw [Bj hta htb (fun e => by cases e; exact Bd hq3 V)], h⟩)))))))))
     | true =>
      refine Ak (j := 24) V V V (Bc V V (neq4.guard ra_2 rb_2 _ _) (neq4.run' hq3 ra_2 rb_2) V (BM V V V (A6 V V (Ak (j := 37) V V V (A6 V V (Ak (j := 37) V V V (A6 V V (Ak (j := 37) V V V (AC V V (fun w => hixa w underlying68 D2 V) V (Ak (j := 37) V V V (A5 V (fun w => FB w _ _) V (Ak (j := 37) V V V (AM V (fun w h => Ap (f := .st .expr) BY ra_3 (h.at_ hlta (hAa.sub 7 16))) V (Ak (j := 37) V V V (A6 V V (Ak (j := 37) V V V (A6 V V (Ak (j := 37) V V V (AC V V (fun w => hixb w underlying68 D2 V) V (Ak (j := 37) V V V (A5 V (fun w => FB w _ _) V (Ak (j := 37) V V V (AM V (fun w h => Ap (f := .st .expr) BY rb_3 (h.at_ hltb (hAb.sub 7 16))) V (?_))))))))))))))))))))))))
      cases hq4 : C6 aa_3 ab_3 with
      | false =>
       refine Ak (j := 37) V V V (Cf call94 V V (SEnc.quiet (sX _ _) hq4 ra_3 rb_3) (Ak (j := 37) V V V (C4 V V ?_)))
       refine BI _ _ _ V (Bm fun w1 h => Ax V ?_)
       exact Af (Aa (Ah V V (Ae (AA fun a ha => Aw (Ao (Ao (Aw (Ao (Au V ha V ⟨by rw [Bj hta htb (fun e => by cases e; exact Bd hq4 V)], h⟩)))))))))
      | true =>
       refine Ak (j := 37) V V V (Cf call94 V V (SEnc.quiet (sX _ _) hq4 ra_3 rb_3) (Ak (j := 37) V V V (C4 V V (BM V V V (A6 V V (Ak (j := 51) V V V (A6 V V (Ak (j := 51) V V V (A6 V V (Ak (j := 51) V V V (AC V V (fun w => hixa w underlying68 D2 V) V (Ak (j := 51) V V V (A5 V (fun w => Gq w _ _) V (Ak (j := 51) V V V (AM V (fun w h => Ap (f := .list (.st .instr)) Dt ra_4 (h.at_ hlta (hAa.sub 23 1))) V (Ak (j := 51) V V V (A6 V V (Ak (j := 51) V V V (A6 V V (Ak (j := 51) V V V (AC V V (fun w => hixb w underlying68 D2 V) V (Ak (j := 51) V V V (A5 V (fun w => Gq w _ _) V (Ak (j := 51) V V V (AM V (fun w h => Ap (f := .list (.st .instr)) Dt rb_4 (h.at_ hltb (hAb.sub 23 1))) V (?_))))))))))))))))))))))))))
       cases hq5 : C6 aa_4 ab_4 with
       | false =>
        refine Ak (j := 51) V V V (Cf call93 V V (SEnc.quiet (ih _ _ (De (by simp) hwa (Nat.le_refl _))) hq5 ra_4 rb_4) (Ak (j := 51) V V V (C4 V V ?_)))
        refine BI _ _ _ V (Bm fun w1 h => Ax V ?_)
        exact Af (Aa (Ah V V (Ae (AA fun a ha => Aw (Ao (Ao (Aw (Ao (Au V ha V ⟨by rw [Bj hta htb (fun e => by cases e; exact Bd hq5 V)], h⟩)))))))))
       | true =>
        refine Ak (j := 51) V V V (Cf call93 V V (SEnc.quiet (ih _ _ (De (by simp) hwa (Nat.le_refl _))) hq5 ra_4 rb_4) (Ak (j := 51) V V V (C4 V V (BM V V V (Bm fun w1 h => A9 V (A_ fun a ha => Az (Ad ?_)))))))
        refine A8 ha (Aa (Ac V V (Al V V V V (Ah V V (A2 fun a ha => Ad ?_)))))
        exact ⟨(i + 1, w1), ha.weak ⟨rfl, rfl, congrArg some (AS (BS hil hmla)), trivial⟩, ⟨rfl, hil, h, C9 hall hta htb (by rw [AZ hq1, AZ hq2, AZ hq3, AZ hq4, AZ hq5])⟩, Nat.sub_lt_sub_left hil (Nat.lt_succ_self i)⟩
 · have hend : i = la.length := Nat.le_antisymm hi (Nat.le_of_not_lt (of_decide_eq_false hf))
   exact A8 ha (Af (Aa (Ah V V (Ae (AA fun a ha => Au V ha V ⟨by rw [CA hle hend hall], h⟩)))))
theorem Qv {t u : T} (ih : ∀ t' u', t'.wt < t.wt → SEnc 93 (.list (.st .instr)) t' u') : SEnc 149 (.list (.st .ctch)) t u := by
 intro w S cs ds hr hk
 obtain ⟨la, rfl⟩ := hr.is_list
 obtain ⟨lb, rfl⟩ := hk.is_list
 obtain ⟨ga, capa, hva, hmla, hgeta⟩ := Bn hr
 obtain ⟨gb, capb, hvb, hmlb, hgetb⟩ := Bn hk
 rw [hva, hvb]
 refine AB 43 func149 V V V ?_
 refine Af (Aa (Ah V V (Ae ?_)))
 refine Af (Af (Aa (Ac V V (AE V (Ay underlying70) V (Ac V V (AE V (Ay underlying70) V (Al V V (BO (c := decide (la.length ≠ lb.length)) BZ) V (Ae (AK V (fun ht => ?_) (fun hf => A_ fun a ha => Ad ?_))))))))))
 · have hne : la.length ≠ lb.length := of_decide_eq_true ht
   refine Af (Aa (Ah V V (Ae (AA fun a ha => Ao (Au V ha V ⟨by rw [Da hne], Fr.refl _ _⟩)))))
 have hle : la.length = lb.length := Classical.byContradiction (of_decide_eq_false hf)
 refine A8 ha (Af (Af (Aa (Ah V V (Ae ?_)))))
 refine A1 (AW (ι := Nat × World) (fun i => [(0, .slice ga la.length capa), (1, .slice gb lb.length capb), (5, .int .i64 (i.1 : Int))]) (fun i w' => w' = i.2 ∧ i.1 ≤ la.length ∧ F0 w w' ∧ ∀ j, j < i.1 → la[j]? = lb[j]?) (fun i => la.length - i.1)
  (0, w) ⟨V, V, V, trivial⟩ ⟨rfl, Nat.zero_le _, Fr.refl _ _, fun j hj => absurd hj (Nat.not_lt_zero j)⟩ ?_)
 rintro ⟨i, _⟩ w1 ⟨rfl, hi, h, hall⟩
 simp only at hi h hall ⊢
 refine Af (Af (Aa (Ac V V (Ac V V (AE V (Ay underlying70) V (Al V V (Bh (c := decide (i < la.length)) (decide_eq_decide.2 Int.ofNat_lt.symm)) V (Ae (AK V (fun ht => A_ fun a ha => Ad ?_) (fun hf => AQ fun a ha => Aq (Aq (A3 (Ad ?_))))))))))))
 · have hil : i < la.length := of_decide_eq_true ht
   obtain ⟨ta, hta⟩ : ∃ t, la[i]? = some t := ⟨_, List.getElem?_eq_getElem hil⟩
   obtain ⟨tb, htb⟩ : ∃ t, lb[i]? = some t := ⟨_, List.getElem?_eq_getElem (hle ▸ hil)⟩
   have hwa := B5 (List.mem_of_getElem? hta)
   obtain ⟨ba, oa, da, hixa, _, hlta, hAa, ra⟩ := hgeta i ta hta
   obtain ⟨bb, ob, db, hixb, _, hltb, hAb, rb⟩ := hgetb i tb htb
   obtain ⟨fla, rfl, hlena, hFa⟩ := ra.st_inv
   obtain ⟨aa_0, fla, rfl, ra_0, hFa⟩ := hFa.cons_inv
   obtain ⟨aa_1, fla, rfl, ra_1, hFa⟩ := hFa.cons_inv
   obtain rfl := hFa.nil_inv
   simp only [Nat.zero_add, Ty.size] at ra_0 ra_1
   obtain ⟨flb, rfl, hlenb, hFb⟩ := rb.st_inv
   obtain ⟨ab_0, flb, rfl, rb_0, hFb⟩ := hFb.cons_inv
   obtain ⟨ab_1, flb, rfl, rb_1, hFb⟩ := hFb.cons_inv
   obtain rfl := hFb.nil_inv
   simp only [Nat.zero_add, Ty.size] at rb_0 rb_1
   refine A8 ha (Af (A1 (Af (C_ (F0 w) CE (by kernel_rfl) h.drawn ?_))))
   clear h
   refine A6 V V (A6 V V (AC V V (fun w => hixa w underlying70 E7 V) V (A5 V (fun w => DX w _ _) V (AM V (fun w h => Ap (f := .list (.int)) Hp ra_0 (h.at_ hlta (hAa.sub 0 1))) V (A6 V V (A6 V V (AC V V (fun w => hixb w underlying70 E7 V) V (A5 V (fun w => DX w _ _) V (AM V (fun w h => Ap (f := .list (.int)) Hp rb_0 (h.at_ hltb (hAb.sub 0 1))) V (?_))))))))))
   cases hq6 : C6 aa_0 ab_0 with
   | false =>
    refine Cf call204 V V (SEnc.quiet PT hq6 ra_0 rb_0) (C4 V V ?_)
    refine BI _ _ _ V (Bm fun w1 h => Ax V ?_)
    exact Af (Aa (Ah V V (Ae (AA fun a ha => Aw (Ao (Ao (Aw (Ao (Au V ha V ⟨by rw [Bj hta htb (fun e => by cases e; exact Bd hq6 V)], h⟩)))))))))
   | true =>
    refine Cf call204 V V (SEnc.quiet PT hq6 ra_0 rb_0) (C4 V V (A6 V V (Ak (j := 12) V V V (A6 V V (Ak (j := 12) V V V (A6 V V (Ak (j := 12) V V V (AC V V (fun w => hixa w underlying70 E7 V) V (Ak (j := 12) V V V (A5 V (fun w => FU w _ _) V (Ak (j := 12) V V V (AM V (fun w h => Ap (f := .list (.st .instr)) Dt ra_1 (h.at_ hlta (hAa.sub 1 1))) V (Ak (j := 12) V V V (A6 V V (Ak (j := 12) V V V (A6 V V (Ak (j := 12) V V V (AC V V (fun w => hixb w underlying70 E7 V) V (Ak (j := 12) V V V (A5 V (fun w => FU w _ _) V (Ak (j := 12) V V V (AM V (fun w h => Ap (f := .list (.st .instr)) Dt rb_1 (h.at_ hltb (hAb.sub 1 1))) V (?_)))))))))))))))))))))))
    cases hq7 : C6 aa_1 ab_1 with
    | false =>
     refine Ak (j := 12) V V V (Cf call93 V V (SEnc.quiet (ih _ _ (De (by simp) hwa (Nat.le_refl _))) hq7 ra_1 rb_1) (Ak (j := 12) V V V (C4 V V ?_)))
     refine BI _ _ _ V (Bm fun w1 h => Ax V ?_)
     exact Af (Aa (Ah V V (Ae (AA fun a ha => Aw (Ao (Ao (Aw (Ao (Au V ha V ⟨by rw [Bj hta htb (fun e => by cases e; exact Bd hq7 V)], h⟩)))))))))
    | true =>
     refine Ak (j := 12) V V V (Cf call93 V V (SEnc.quiet (ih _ _ (De (by simp) hwa (Nat.le_refl _))) hq7 ra_1 rb_1) (Ak (j := 12) V V V (C4 V V (BM V V V (Bm fun w1 h => A9 V (A_ fun a ha => Az (Ad ?_)))))))
     refine A8 ha (Aa (Ac V V (Al V V V V (Ah V V (A2 fun a ha => Ad ?_)))))
     exact ⟨(i + 1, w1), ha.weak ⟨rfl, rfl, congrArg some (AS (BS hil hmla)), trivial⟩, ⟨rfl, hil, h, C9 hall hta htb (by rw [AZ hq6, AZ hq7])⟩, Nat.sub_lt_sub_left hil (Nat.lt_succ_self i)⟩
 · have hend : i = la.length := Nat.le_antisymm hi (Nat.le_of_not_lt (of_decide_eq_false hf))
   exact A8 ha (Af (Aa (Ah V V (Ae (AA fun a ha => Au V ha V ⟨by rw [CA hle hend hall], h⟩)))))
theorem So : ∀ (N : Nat) (t u : T), t.wt ≤ N → SEnc 93 (.list (.st .instr)) t u := by
 intro N
 induction N using Nat.strongRecOn with
 | _ N IH =>
 intro t u hN
 intro w S cs ds hr hk
 obtain ⟨la, rfl⟩ := hr.is_list
 obtain ⟨lb, rfl⟩ := hk.is_list
 obtain ⟨ga, capa, hva, hmla, hgeta⟩ := Bn hr
 obtain ⟨gb, capb, hvb, hmlb, hgetb⟩ := Bn hk
 rw [hva, hvb]
 obtain ⟨Z, hz, hzl⟩ : ∃ Z : List Value, (∀ w, (zeroValue 72).run prog w = .ok (.agg Z.toArray) w) ∧ Z.length = 51 := ⟨_, zeroValue72, rfl⟩
 refine AB 150 func93 V V V ?_
 refine Af (Aa (Ah V V (Ae ?_)))
 refine Af (Af (Aa (Ac V V (AE V (Ay underlying56) V (Ac V V (AE V (Ay underlying56) V (Al V V (BO (c := decide (la.length ≠ lb.length)) BZ) V (Ae (AK V (fun ht => ?_) (fun hf => A_ fun a ha => Ad ?_))))))))))
 · have hne : la.length ≠ lb.length := of_decide_eq_true ht
   refine Af (Aa (Ah V V (Ae (AA fun a ha => Ao (Au V ha V ⟨by rw [Da hne], Fr.refl _ _⟩)))))
 have hle : la.length = lb.length := Classical.byContradiction (of_decide_eq_false hf)
 refine A8 ha (Af (Af (Aa (Ah V V (Ae ?_)))))
 refine A1 (AW (ι := Nat × World) (fun i => [(0, .slice ga la.length capa), (1, .slice gb lb.length capb), (5, .int .i64 (i.1 : Int))]) (fun i w' => w' = i.2 ∧ i.1 ≤ la.length ∧ F0 w w' ∧ ∀ j, j < i.1 → la[j]? = lb[j]?) (fun i => la.length - i.1)
  (0, w) ⟨V, V, V, trivial⟩ ⟨rfl, Nat.zero_le _, Fr.refl _ _, fun j hj => absurd hj (Nat.not_lt_zero j)⟩ ?_)
 rintro ⟨i, _⟩ w1 ⟨rfl, hi, h, hall⟩
 simp only at hi h hall ⊢
 refine Af (Af (Aa (Ac V V (Ac V V (AE V (Ay underlying56) V (Al V V (Bh (c := decide (i < la.length)) (decide_eq_decide.2 Int.ofNat_lt.symm)) V (Ae (AK V (fun ht => A_ fun a ha => Ad ?_) (fun hf => AQ fun a ha => Aq (Aq (A3 (Ad ?_))))))))))))
 · have hil : i < la.length := of_decide_eq_true ht
   obtain ⟨ta, hta⟩ : ∃ t, la[i]? = some t := ⟨_, List.getElem?_eq_getElem hil⟩
   obtain ⟨tb, htb⟩ : ∃ t, lb[i]? = some t := ⟨_, List.getElem?_eq_getElem (hle ▸ hil)⟩
   have hwa := B5 (List.mem_of_getElem? hta)
   obtain ⟨ba, oa, da, hixa, _, hlta, hAa, ra⟩ := hgeta i ta hta
   obtain ⟨bb, ob, db, hixb, _, hltb, hAb, rb⟩ := hgetb i tb htb
   refine A8 ha (Af (A1 ?_))
   have honea := Rep.one _ _ _ ra
   obtain ⟨wa, hsta, aba, fa⟩ := Dd (w := w1) (z := .agg Z.toArray) (zs := Z) Hh rfl hzl honea.1 honea.2
   refine Af (Aa (Ac V V (Ac V V (A0 V V (hixa _ underlying56 Hh V) V (Ai V (Ap (f := .st .instr) Hh ra (h.at_ hlta hAa)) V (AO (hz _) V (An V V hsta (Ae ?_))))))))
   replace h : F0 w wa := h.trans fa
   have honeb := Rep.one _ _ _ rb
   obtain ⟨wb, hstb, abb, fb⟩ := Dd (w := wa) (z := .agg Z.toArray) (zs := Z) Hh rfl hzl honeb.1 honeb.2
   refine Af (Aa (Ac V V (Ac V V (A0 V V (hixb _ underlying56 Hh V) V (Ai V (Ap (f := .st .instr) Hh rb (h.at_ hltb hAb)) V (AO (hz _) V (An V V hstb (Ae ?_))))))))
   replace h : F0 w wb := h.trans fb
   replace aba := (fb.blk _ aba.lt (fun h => h)).trans aba
   have hbase := h
   clear h hsta hstb fa fb
   generalize wa.heap.size = bxb at abb ⊢
   generalize w1.heap.size = bxa at aba ⊢
   replace aba : Blk wb bxa da 72 := aba
   replace ra := ra.fresh hbase
   replace rb := rb.fresh hbase
   have hltxa := aba.lt
   have hltxb := abb.lt
   have hAxa := aba.all
   have hAxb := abb.all
   obtain ⟨w1, hw1⟩ : ∃ w1, w1 = wb := ⟨_, rfl⟩
   have h : F0 wb w1 := by rw [hw1]; exact Fr.refl _ _
   rw [← hw1]
   clear hw1
   refine Dc [(0, .slice ga la.length capa), (1, .slice gb lb.length capb), (5, .int .i64 (i : Int)), (6, ptr bxa), (7, ptr bxb)] ⟨V, V, V, V, V, trivial⟩ ?_
   obtain ⟨fla, rfl, hlena, hFa⟩ := ra.st_inv
   obtain ⟨aa_0, fla, rfl, ra_0, hFa⟩ := hFa.cons_inv
   obtain ⟨aa_1, fla, rfl, ra_1, hFa⟩ := hFa.cons_inv
   obtain ⟨aa_2, fla, rfl, ra_2, hFa⟩ := hFa.cons_inv
   obtain ⟨aa_3, fla, rfl, ra_3, hFa⟩ := hFa.cons_inv
   obtain ⟨aa_4, fla, rfl, ra_4, hFa⟩ := hFa.cons_inv
   obtain ⟨aa_5, fla, rfl, ra_5, hFa⟩ := hFa.cons_inv
   obtain ⟨aa_6, fla, rfl, ra_6, hFa⟩ := hFa.cons_inv
   obtain ⟨aa_7, fla, rfl, ra_7, hFa⟩ := hFa.cons_inv
   obtain ⟨aa_8, fla, rfl, ra_8, hFa⟩ := hFa.cons_inv
   obtain ⟨aa_9, fla, rfl, ra_9, hFa⟩ := hFa.cons_inv
   obtain ⟨aa_10, fla, rfl, ra_10, hFa⟩ := hFa.cons_inv
   obtain ⟨aa_11, fla, rfl, ra_11, hFa⟩ := hFa.cons_inv
   obtain ⟨aa_12, fla, rfl, ra_12, hFa⟩ := hFa.cons_inv
   obtain ⟨aa_13, fla, rfl, ra_13, hFa⟩ := hFa.cons_inv
   obtain ⟨aa_14, fla, rfl, ra_14, hFa⟩ := hFa.cons_inv
   obtain ⟨aa_15, fla, rfl, ra_15, hFa⟩ := hFa.cons_inv
   obtain ⟨aa_16, fla, rfl, ra_16, hFa⟩ := hFa.cons_inv
   obtain rfl := hFa.nil_inv
   simp only [Nat.zero_add, Nat.reduceAdd, Ty.size, SN.size] at ra_0 ra_1 ra_2 ra_3 ra_4 ra_5 ra_6 ra_7 ra_8 ra_9 ra_10 ra_11 ra_12 ra_13 ra_14 ra_15 ra_16
   obtain ⟨flb, rfl, hlenb, hFb⟩ := rb.st_inv
   obtain ⟨ab_0, flb, rfl, rb_0, hFb⟩ := hFb.cons_inv
   obtain ⟨ab_1, flb, rfl, rb_1, hFb⟩ := hFb.cons_inv
   obtain ⟨ab_2, flb, rfl, rb_2, hFb⟩ := hFb.cons_inv
   obtain ⟨ab_3, flb, rfl, rb_3, hFb⟩ := hFb.cons_inv
   obtain ⟨ab_4, flb, rfl, rb_4, hFb⟩ := hFb.cons_inv
   obtain ⟨ab_5, flb, rfl, rb_5, hFb⟩ := hFb.cons_inv
   obtain ⟨ab_6, flb, rfl, rb_6, hFb⟩ := hFb.cons_inv
   obtain ⟨ab_7, flb, rfl, rb_7, hFb⟩ := hFb.cons_inv
   obtain ⟨ab_8, flb, rfl, rb_8, hFb⟩ := hFb.cons_inv
   obtain ⟨ab_9, flb, rfl, rb_9, hFb⟩ := hFb.cons_inv
   obtain ⟨ab_10, flb, rfl, rb_10, hFb⟩ := hFb.cons_inv
   obtain ⟨ab_11, flb, rfl, rb_11, hFb⟩ := hFb.cons_inv
   obtain ⟨ab_12, flb, rfl, rb_12, hFb⟩ := hFb.cons_inv
   obtain ⟨ab_13, flb, rfl, rb_13, hFb⟩ := hFb.cons_inv
   obtain ⟨ab_14, flb, rfl, rb_14, hFb⟩ := hFb.cons_inv
   obtain ⟨ab_15, flb, rfl, rb_15, hFb⟩ := hFb.cons_inv
   obtain ⟨ab_16, flb, rfl, rb_16, hFb⟩ := hFb.cons_inv
   obtain rfl := hFb.nil_inv
   simp only [Nat.zero_add, Nat.reduceAdd, Ty.size, SN.size] at rb_0 rb_1 rb_2 rb_3 rb_4 rb_5 rb_6 rb_7 rb_8 rb_9 rb_10 rb_11 rb_12 rb_13 rb_14 rb_15 rb_16
   refine Af (Af (Aa ?_))
   refine Ab V (Id _ _ _) V (Ai V (Ap (f := .int) Cj ra_0 (h.at_ hltxa (hAxa.sub 0 1))) V (Ab V (Id _ _ _) V (Ai V (Ap (f := .int) Cj rb_0 (h.at_ hltxb (hAxb.sub 0 1))) V (?_))))
   cases hq8 : C6 aa_0 ab_0 with
   | false =>
    refine AG V V (neq3.guard ra_0 rb_0 _ _ _) (neq3.run' hq8 ra_0 rb_0 _) V ?_
    refine AY _ _ _ V (Ae (Ax V ?_))
    exact Af (Aa (Ah V V (Ae (AA fun a ha => Ao (Aw (Ao (Ao (Aw (Ao (Au V ha V ⟨by rw [Bj hta htb (fun e => by cases e; exact Bd hq8 V)], hbase.trans h⟩))))))))))
   | true =>
    refine AG V V (neq3.guard ra_0 rb_0 _ _ _) (neq3.run' hq8 ra_0 rb_0 _) V (Ac V V (Ag (j := 5) V V V (Ab V (HX _ _ _) V (Ag (j := 5) V V V (Ai V (Ap (f := .str) Cc ra_1 (h.at_ hltxa (hAxa.sub 1 1))) V (Ag (j := 5) V V V (Ab V (HX _ _ _) V (Ag (j := 5) V V V (Ai V (Ap (f := .str) Cc rb_1 (h.at_ hltxb (hAxb.sub 1 1))) V (?_))))))))))
    cases hq9 : C6 aa_1 ab_1 with
    | false =>
     refine Ag (j := 5) V V V (AG V V (neq9.guard ra_1 rb_1 _ _ _) (neq9.run' hq9 ra_1 rb_1 _) V ?_)
     refine AY _ _ _ V (Ae (Ax V ?_))
     exact Af (Aa (Ah V V (Ae (AA fun a ha => Ao (Aw (Ao (Ao (Aw (Ao (Au V ha V ⟨by rw [Bj hta htb (fun e => by cases e; exact Bd hq9 V)], hbase.trans h⟩))))))))))
    | true =>
     refine Ag (j := 5) V V V (AG V V (neq9.guard ra_1 rb_1 _ _ _) (neq9.run' hq9 ra_1 rb_1 _) V (AI V V V (Ac V V (Ag (j := 12) V V V (Ab V (Ib _ _ _) V (Ag (j := 12) V V V (Ai V (Ap (f := .str) Cc ra_2 (h.at_ hltxa (hAxa.sub 2 1))) V (Ag (j := 12) V V V (Ab V (Ib _ _ _) V (Ag (j := 12) V V V (Ai V (Ap (f := .str) Cc rb_2 (h.at_ hltxb (hAxb.sub 2 1))) V (?_))))))))))))
     cases hq10 : C6 aa_2 ab_2 with
     | false =>
      refine Ag (j := 12) V V V (AG V V (neq9.guard ra_2 rb_2 _ _ _) (neq9.run' hq10 ra_2 rb_2 _) V ?_)
      refine AY _ _ _ V (Ae (Ax V ?_))
      exact Af (Aa (Ah V V (Ae (AA fun a ha => Ao (Aw (Ao (Ao (Aw (Ao (Au V ha V ⟨by rw [Bj hta htb (fun e => by cases e; exact Bd hq10 V)], hbase.trans h⟩))))))))))
     | true =>
      refine Ag (j := 12) V V V (AG V V (neq9.guard ra_2 rb_2 _ _ _) (neq9.run' hq10 ra_2 rb_2 _) V (AI V V V (Ac V V (Ag (j := 19) V V V (Ab V (HN _ _ _) V (Ag (j := 19) V V V (Ai V (Ap (f := .bool) Dp ra_5 (h.at_ hltxa (hAxa.sub 5 1))) V (Ag (j := 19) V V V (Ab V (HN _ _ _) V (Ag (j := 19) V V V (Ai V (Ap (f := .bool) Dp rb_5 (h.at_ hltxb (hAxb.sub 5 1))) V (?_))))))))))))
      cases hq11 : C6 aa_5 ab_5 with
      | false =>
       refine Ag (j := 19) V V V (AG V V (neq4.guard ra_5 rb_5 _ _ _) (neq4.run' hq11 ra_5 rb_5 _) V ?_)
       refine AY _ _ _ V (Ae (Ax V ?_))
       exact Af (Aa (Ah V V (Ae (AA fun a ha => Ao (Aw (Ao (Ao (Aw (Ao (Au V ha V ⟨by rw [Bj hta htb (fun e => by cases e; exact Bd hq11 V)], hbase.trans h⟩))))))))))
      | true =>
       refine Ag (j := 19) V V V (AG V V (neq4.guard ra_5 rb_5 _ _ _) (neq4.run' hq11 ra_5 rb_5 _) V (AI V V V (Ac V V (Ag (j := 26) V V V (Ab V (HM _ _ _) V (Ag (j := 26) V V V (Ai V (Ap (f := .st .type) D9 ra_8 (h.at_ hltxa (hAxa.sub 38 5))) V (Ag (j := 26) V V V (Ab V (HM _ _ _) V (Ag (j := 26) V V V (Ai V (Ap (f := .st .type) D9 rb_8 (h.at_ hltxb (hAxb.sub 38 5))) V (?_))))))))))))
       cases hq12 : C6 aa_8 ab_8 with
       | false =>
        refine Ag (j := 26) V V V (AG V V (neq63.guard ra_8 rb_8 _ _ _) (neq63.run' hq12 ra_8 rb_8 _) V ?_)
        refine AY _ _ _ V (Ae (Ax V ?_))
        exact Af (Aa (Ah V V (Ae (AA fun a ha => Ao (Aw (Ao (Ao (Aw (Ao (Au V ha V ⟨by rw [Bj hta htb (fun e => by cases e; exact Bd hq12 V)], hbase.trans h⟩))))))))))
       | true =>
        refine Ag (j := 26) V V V (AG V V (neq63.guard ra_8 rb_8 _ _ _) (neq63.run' hq12 ra_8 rb_8 _) V (AI V V V (Ac V V (Ag (j := 33) V V V (Ab V (Gi _ _ _) V (Ag (j := 33) V V V (Ai V (Ap (f := .int) Cj ra_15 (h.at_ hltxa (hAxa.sub 49 1))) V (Ag (j := 33) V V V (Ab V (Gi _ _ _) V (Ag (j := 33) V V V (Ai V (Ap (f := .int) Cj rb_15 (h.at_ hltxb (hAxb.sub 49 1))) V (?_))))))))))))
        cases hq13 : C6 aa_15 ab_15 with
        | false =>
         refine Ag (j := 33) V V V (AG V V (neq3.guard ra_15 rb_15 _ _ _) (neq3.run' hq13 ra_15 rb_15 _) V ?_)
         refine AY _ _ _ V (Ae (Ax V ?_))
         exact Af (Aa (Ah V V (Ae (AA fun a ha => Ao (Aw (Ao (Ao (Aw (Ao (Au V ha V ⟨by rw [Bj hta htb (fun e => by cases e; exact Bd hq13 V)], hbase.trans h⟩))))))))))
        | true =>
         refine Ag (j := 33) V V V (AG V V (neq3.guard ra_15 rb_15 _ _ _) (neq3.run' hq13 ra_15 rb_15 _) V (AI V V V (Ac V V (Ag (j := 40) V V V (Ab V (FM _ _ _) V (Ag (j := 40) V V V (Ai V (Ap (f := .int) Cj ra_16 (h.at_ hltxa (hAxa.sub 50 1))) V (Ag (j := 40) V V V (Ab V (FM _ _ _) V (Ag (j := 40) V V V (Ai V (Ap (f := .int) Cj rb_16 (h.at_ hltxb (hAxb.sub 50 1))) V (?_))))))))))))
         cases hq14 : C6 aa_16 ab_16 with
         | false =>
          refine Ag (j := 40) V V V (AG V V (neq3.guard ra_16 rb_16 _ _ _) (neq3.run' hq14 ra_16 rb_16 _) V ?_)
          refine AY _ _ _ V (Ae (Ax V ?_))
          exact Af (Aa (Ah V V (Ae (AA fun a ha => Ao (Aw (Ao (Ao (Aw (Ao (Au V ha V ⟨by rw [Bj hta htb (fun e => by cases e; exact Bd hq14 V)], hbase.trans h⟩))))))))))
         | true =>
          refine Ag (j := 40) V V V (AG V V (neq3.guard ra_16 rb_16 _ _ _) (neq3.run' hq14 ra_16 rb_16 _) V (AI V V V (Ae (A9 V (A_ fun a ha => Ad ?_)))))
          refine A8 ha (Dc [(0, .slice ga la.length capa), (1, .slice gb lb.length capb), (5, .int .i64 (i : Int)), (6, ptr bxa), (7, ptr bxb)] ⟨V, V, V, V, V, trivial⟩ ?_)
          refine Af (Af (Aa ?_))
          refine Ab V (HZ _ _ _) V (Ai V (Ap (f := .list (.st .part)) J2 ra_3 (h.at_ hltxa (hAxa.sub 3 1))) V (Ab V (HZ _ _ _) V (Ai V (Ap (f := .list (.st .part)) J2 rb_3 (h.at_ hltxb (hAxb.sub 3 1))) V (?_))))
          cases hq15 : C6 aa_3 ab_3 with
          | false =>
           refine Aj call146 V V (SEnc.call (OJ sX) hq15 ra_3 rb_3 h) ?_ Be
           rintro _ w1 ⟨rfl, h⟩
           refine Bt V V ?_
           refine AY _ _ _ V (Ae (Ax V ?_))
           exact Af (Aa (Ah V V (Ae (AA fun a ha => Ao (Aw (Ao (Ao (Aw (Ao (Au V ha V ⟨by rw [Bj hta htb (fun e => by cases e; exact Bd hq15 V)], hbase.trans h⟩))))))))))
          | true =>
           refine Aj call146 V V (SEnc.call (OJ sX) hq15 ra_3 rb_3 h) ?_ Be
           rintro _ w1 ⟨rfl, h⟩
           refine Bt V V (Ac V V (Ag (j := 6) V V V (Ab V (HL _ _ _) V (Ag (j := 6) V V V (Ai V (Ap (f := .list (.st .part)) J2 ra_4 (h.at_ hltxa (hAxa.sub 4 1))) V (Ag (j := 6) V V V (Ab V (HL _ _ _) V (Ag (j := 6) V V V (Ai V (Ap (f := .list (.st .part)) J2 rb_4 (h.at_ hltxb (hAxb.sub 4 1))) V (?_))))))))))
           cases hq16 : C6 aa_4 ab_4 with
           | false =>
            refine Ag (j := 6) V V V (Aj call146 V V (SEnc.call (OJ sX) hq16 ra_4 rb_4 h) ?_ Be)
            rintro _ w1 ⟨rfl, h⟩
            refine Ag (j := 6) V V V (Bt V V ?_)
            refine AY _ _ _ V (Ae (Ax V ?_))
            exact Af (Aa (Ah V V (Ae (AA fun a ha => Ao (Aw (Ao (Ao (Aw (Ao (Au V ha V ⟨by rw [Bj hta htb (fun e => by cases e; exact Bd hq16 V)], hbase.trans h⟩))))))))))
           | true =>
            refine Ag (j := 6) V V V (Aj call146 V V (SEnc.call (OJ sX) hq16 ra_4 rb_4 h) ?_ Be)
            rintro _ w1 ⟨rfl, h⟩
            refine Ag (j := 6) V V V (Bt V V (AI V V V (Ac V V (Ag (j := 14) V V V (Ab V (Ic _ _ _) V (Ag (j := 14) V V V (Ai V (Ap (f := .st .expr) BY ra_6 (h.at_ hltxa (hAxa.sub 6 16))) V (Ag (j := 14) V V V (Ab V (Ic _ _ _) V (Ag (j := 14) V V V (Ai V (Ap (f := .st .expr) BY rb_6 (h.at_ hltxb (hAxb.sub 6 16))) V (?_))))))))))))
            cases hq17 : C6 aa_6 ab_6 with
            | false =>
             refine Ag (j := 14) V V V (Aj call94 V V (SEnc.call (sX _ _) hq17 ra_6 rb_6 h) ?_ Be)
             rintro _ w1 ⟨rfl, h⟩
             refine Ag (j := 14) V V V (Bt V V ?_)
             refine AY _ _ _ V (Ae (Ax V ?_))
             exact Af (Aa (Ah V V (Ae (AA fun a ha => Ao (Aw (Ao (Ao (Aw (Ao (Au V ha V ⟨by rw [Bj hta htb (fun e => by cases e; exact Bd hq17 V)], hbase.trans h⟩))))))))))
            | true =>
             refine Ag (j := 14) V V V (Aj call94 V V (SEnc.call (sX _ _) hq17 ra_6 rb_6 h) ?_ Be)
             rintro _ w1 ⟨rfl, h⟩
             refine Ag (j := 14) V V V (Bt V V (AI V V V (Ac V V (Ag (j := 22) V V V (Ab V (HB _ _ _) V (Ag (j := 22) V V V (Ai V (Ap (f := .st .expr) BY ra_7 (h.at_ hltxa (hAxa.sub 22 16))) V (Ag (j := 22) V V V (Ab V (HB _ _ _) V (Ag (j := 22) V V V (Ai V (Ap (f := .st .expr) BY rb_7 (h.at_ hltxb (hAxb.sub 22 16))) V (?_))))))))))))
             cases hq18 : C6 aa_7 ab_7 with
             | false =>
              refine Ag (j := 22) V V V (Aj call94 V V (SEnc.call (sX _ _) hq18 ra_7 rb_7 h) ?_ Be)
              rintro _ w1 ⟨rfl, h⟩
              refine Ag (j := 22) V V V (Bt V V ?_)
              refine AY _ _ _ V (Ae (Ax V ?_))
              exact Af (Aa (Ah V V (Ae (AA fun a ha => Ao (Aw (Ao (Ao (Aw (Ao (Au V ha V ⟨by rw [Bj hta htb (fun e => by cases e; exact Bd hq18 V)], hbase.trans h⟩))))))))))
             | true =>
              refine Ag (j := 22) V V V (Aj call94 V V (SEnc.call (sX _ _) hq18 ra_7 rb_7 h) ?_ Be)
              rintro _ w1 ⟨rfl, h⟩
              refine Ag (j := 22) V V V (Bt V V (AI V V V (Ae (A9 V (A_ fun a ha => Ad ?_)))))
              refine A8 ha (Dc [(0, .slice ga la.length capa), (1, .slice gb lb.length capb), (5, .int .i64 (i : Int)), (6, ptr bxa), (7, ptr bxb)] ⟨V, V, V, V, V, trivial⟩ ?_)
              refine Af (Aa ?_)
              refine Ab V (Ht _ _ _) V (Ai V (Ap (f := .list (.st .sort)) J1 ra_9 (h.at_ hltxa (hAxa.sub 43 1))) V (Ab V (Ht _ _ _) V (Ai V (Ap (f := .list (.st .sort)) J1 rb_9 (h.at_ hltxb (hAxb.sub 43 1))) V (?_))))
              cases hq19 : C6 aa_9 ab_9 with
              | false =>
               refine Aj call147 V V (SEnc.call (OQ sX) hq19 ra_9 rb_9 h) ?_ Be
               rintro _ w1 ⟨rfl, h⟩
               refine Bt V V ?_
               refine AY _ _ _ V (Ae (Ax V ?_))
               exact Af (Aa (Ah V V (Ae (AA fun a ha => Aw (Ao (Ao (Aw (Ao (Au V ha V ⟨by rw [Bj hta htb (fun e => by cases e; exact Bd hq19 V)], hbase.trans h⟩)))))))))
              | true =>
               refine Aj call147 V V (SEnc.call (OQ sX) hq19 ra_9 rb_9 h) ?_ Be
               rintro _ w1 ⟨rfl, h⟩
               refine Bt V V (Ac V V (Ag (j := 6) V V V (Ab V (Gb _ _ _) V (Ag (j := 6) V V V (Ai V (Ap (f := .list (.st .param)) GT ra_10 (h.at_ hltxa (hAxa.sub 44 1))) V (Ag (j := 6) V V V (Ab V (Gb _ _ _) V (Ag (j := 6) V V V (Ai V (Ap (f := .list (.st .param)) GT rb_10 (h.at_ hltxb (hAxb.sub 44 1))) V (?_))))))))))
               cases hq20 : C6 aa_10 ab_10 with
               | false =>
                refine Ag (j := 6) V V V (Aj call92 V V (SEnc.call (Rr (fun t' u' ht => IH t'.wt (Nat.lt_trans ht (De (by simp) hwa hN)) t' u' (Nat.le_refl _))) hq20 ra_10 rb_10 h) ?_ Be)
                rintro _ w1 ⟨rfl, h⟩
                refine Ag (j := 6) V V V (Bt V V ?_)
                refine AY _ _ _ V (Ae (Ax V ?_))
                exact Af (Aa (Ah V V (Ae (AA fun a ha => Aw (Ao (Ao (Aw (Ao (Au V ha V ⟨by rw [Bj hta htb (fun e => by cases e; exact Bd hq20 V)], hbase.trans h⟩)))))))))
               | true =>
                refine Ag (j := 6) V V V (Aj call92 V V (SEnc.call (Rr (fun t' u' ht => IH t'.wt (Nat.lt_trans ht (De (by simp) hwa hN)) t' u' (Nat.le_refl _))) hq20 ra_10 rb_10 h) ?_ Be)
                rintro _ w1 ⟨rfl, h⟩
                refine Ag (j := 6) V V V (Bt V V (AI V V V (Ac V V (Ag (j := 14) V V V (Ab V (DB _ _ _) V (Ag (j := 14) V V V (Ai V (Ap (f := .list (.st .source)) Ky ra_11 (h.at_ hltxa (hAxa.sub 45 1))) V (Ag (j := 14) V V V (Ab V (DB _ _ _) V (Ag (j := 14) V V V (Ai V (Ap (f := .list (.st .source)) Ky rb_11 (h.at_ hltxb (hAxb.sub 45 1))) V (?_))))))))))))
                cases hq21 : C6 aa_11 ab_11 with
                | false =>
                 refine Ag (j := 14) V V V (Aj call148 V V (SEnc.call (PW sX) hq21 ra_11 rb_11 h) ?_ Be)
                 rintro _ w1 ⟨rfl, h⟩
                 refine Ag (j := 14) V V V (Bt V V ?_)
                 refine AY _ _ _ V (Ae (Ax V ?_))
                 exact Af (Aa (Ah V V (Ae (AA fun a ha => Aw (Ao (Ao (Aw (Ao (Au V ha V ⟨by rw [Bj hta htb (fun e => by cases e; exact Bd hq21 V)], hbase.trans h⟩)))))))))
                | true =>
                 refine Ag (j := 14) V V V (Aj call148 V V (SEnc.call (PW sX) hq21 ra_11 rb_11 h) ?_ Be)
                 rintro _ w1 ⟨rfl, h⟩
                 refine Ag (j := 14) V V V (Bt V V (AI V V V (Ac V V (Ag (j := 22) V V V (Ab V (Dn _ _ _) V (Ag (j := 22) V V V (Ai V (Ap (f := .list (.st .ctch)) J3 ra_12 (h.at_ hltxa (hAxa.sub 46 1))) V (Ag (j := 22) V V V (Ab V (Dn _ _ _) V (Ag (j := 22) V V V (Ai V (Ap (f := .list (.st .ctch)) J3 rb_12 (h.at_ hltxb (hAxb.sub 46 1))) V (?_))))))))))))
                 cases hq22 : C6 aa_12 ab_12 with
                 | false =>
                  refine Ag (j := 22) V V V (Aj call149 V V (SEnc.call (Qv (fun t' u' ht => IH t'.wt (Nat.lt_trans ht (De (by simp) hwa hN)) t' u' (Nat.le_refl _))) hq22 ra_12 rb_12 h) ?_ Be)
                  rintro _ w1 ⟨rfl, h⟩
                  refine Ag (j := 22) V V V (Bt V V ?_)
                  refine AY _ _ _ V (Ae (Ax V ?_))
                  exact Af (Aa (Ah V V (Ae (AA fun a ha => Aw (Ao (Ao (Aw (Ao (Au V ha V ⟨by rw [Bj hta htb (fun e => by cases e; exact Bd hq22 V)], hbase.trans h⟩)))))))))
                 | true =>
                  refine Ag (j := 22) V V V (Aj call149 V V (SEnc.call (Qv (fun t' u' ht => IH t'.wt (Nat.lt_trans ht (De (by simp) hwa hN)) t' u' (Nat.le_refl _))) hq22 ra_12 rb_12 h) ?_ Be)
                  rintro _ w1 ⟨rfl, h⟩
                  refine Ag (j := 22) V V V (Bt V V (AI V V V (Ac V V (Ag (j := 30) V V V (Ab V (FE _ _ _) V (Ag (j := 30) V V V (Ai V (Ap (f := .list (.st .instr)) Dt ra_13 (h.at_ hltxa (hAxa.sub 47 1))) V (Ag (j := 30) V V V (Ab V (FE _ _ _) V (Ag (j := 30) V V V (Ai V (Ap (f := .list (.st .instr)) Dt rb_13 (h.at_ hltxb (hAxb.sub 47 1))) V (?_))))))))))))
                  cases hq23 : C6 aa_13 ab_13 with
                  | false =>
                   refine Ag (j := 30) V V V (Aj call93 V V (SEnc.call (IH _ (De (by simp) hwa hN) _ _ (Nat.le_refl _)) hq23 ra_13 rb_13 h) ?_ Be)
                   rintro _ w1 ⟨rfl, h⟩
                   refine Ag (j := 30) V V V (Bt V V ?_)
                   refine AY _ _ _ V (Ae (Ax V ?_))
                   exact Af (Aa (Ah V V (Ae (AA fun a ha => Aw (Ao (Ao (Aw (Ao (Au V ha V ⟨by rw [Bj hta htb (fun e => by cases e; exact Bd hq23 V)], hbase.trans h⟩)))))))))
                  | true =>
                   refine Ag (j := 30) V V V (Aj call93 V V (SEnc.call (IH _ (De (by simp) hwa hN) _ _ (Nat.le_refl _)) hq23 ra_13 rb_13 h) ?_ Be)
                   rintro _ w1 ⟨rfl, h⟩
                   refine Ag (j := 30) V V V (Bt V V (AI V V V (Ac V V (Ag (j := 38) V V V (Ab V (FY _ _ _) V (Ag (j := 38) V V V (Ai V (Ap (f := .list (.st .instr)) Dt ra_14 (h.at_ hltxa (hAxa.sub 48 1))) V (Ag (j := 38) V V V (Ab V (FY _ _ _) V (Ag (j := 38) V V V (Ai V (Ap (f := .list (.st .instr)) Dt rb_14 (h.at_ hltxb (hAxb.sub 48 1))) V (?_))))))))))))
                   cases hq24 : C6 aa_14 ab_14 with
                   | false =>
                    refine Ag (j := 38) V V V (Aj call93 V V (SEnc.call (IH _ (De (by simp) hwa hN) _ _ (Nat.le_refl _)) hq24 ra_14 rb_14 h) ?_ Be)
                    rintro _ w1 ⟨rfl, h⟩
                    refine Ag (j := 38) V V V (Bt V V ?_)
                    refine AY _ _ _ V (Ae (Ax V ?_))
                    exact Af (Aa (Ah V V (Ae (AA fun a ha => Aw (Ao (Ao (Aw (Ao (Au V ha V ⟨by rw [Bj hta htb (fun e => by cases e; exact Bd hq24 V)], hbase.trans h⟩)))))))))
                   | true =>
                    refine Ag (j := 38) V V V (Aj call93 V V (SEnc.call (IH _ (De (by simp) hwa hN) _ _ (Nat.le_refl _)) hq24 ra_14 rb_14 h) ?_ Be)
                    rintro _ w1 ⟨rfl, h⟩
                    refine Ag (j := 38) V V V (Bt V V (AI V V V (Ae (A9 V (A_ fun a ha => Az (Ad ?_))))))
                    refine A8 ha (Aa (Ac V V (Al V V V V (Ah V V (A2 fun a ha => Ad ?_)))))
                    exact ⟨(i + 1, w1), ha.weak ⟨rfl, rfl, congrArg some (AS (BS hil hmla)), trivial⟩, ⟨rfl, hil, hbase.trans h, C9 hall hta htb (by rw [AZ hq8, AZ hq9, AZ hq10, AZ hq11, AZ hq12, AZ hq13, AZ hq14, AZ hq15, AZ hq16, AZ hq17, AZ hq18, AZ hq19, AZ hq20, AZ hq21, AZ hq22, AZ hq23, AZ hq24])⟩, Nat.sub_lt_sub_left hil (Nat.lt_succ_self i)⟩
 · have hend : i = la.length := Nat.le_antisymm hi (Nat.le_of_not_lt (of_decide_eq_false hf))
   exact A8 ha (Af (Aa (Ah V V (Ae (AA fun a ha => Au V ha V ⟨by rw [CA hle hend hall], h⟩)))))
theorem sI {t u : T} : SEnc 93 (.list (.st .instr)) t u := So t.wt t u (Nat.le_refl _)
theorem sP {t u : T} : SEnc 92 (.list (.st .param)) t u := Rr (fun _ _ _ => sI)
theorem RQ {t u : T} : SEnc 37 (.list (.st .template)) t u := by
 intro w S cs ds hr hk
 obtain ⟨la, rfl⟩ := hr.is_list
 obtain ⟨lb, rfl⟩ := hk.is_list
 obtain ⟨ga, capa, hva, hmla, hgeta⟩ := Bn hr
 obtain ⟨gb, capb, hvb, hmlb, hgetb⟩ := Bn hk
 rw [hva, hvb]
 obtain ⟨Z, hz, hzl⟩ : ∃ Z : List Value, (∀ w, (zeroValue 74).run prog w = .ok (.agg Z.toArray) w) ∧ Z.length = 12 := ⟨_, zeroValue74, rfl⟩
 refine AB 111 func37 V V V ?_
 refine Af (Aa (Ah V V (Ae ?_)))
 refine Af (Af (Aa (Ac V V (AE V (Ay underlying27) V (Ac V V (AE V (Ay underlying27) V (Al V V (BO (c := decide (la.length ≠ lb.length)) BZ) V (Ae (AK V (fun ht => ?_) (fun hf => A_ fun a ha => Ad ?_))))))))))
 · have hne : la.length ≠ lb.length := of_decide_eq_true ht
   refine Af (Aa (Ah V V (Ae (AA fun a ha => Ao (Au V ha V ⟨by rw [Da hne], Fr.refl _ _⟩)))))
 have hle : la.length = lb.length := Classical.byContradiction (of_decide_eq_false hf)
 refine A8 ha (Af (Af (Aa (Ah V V (Ae ?_)))))
 refine A1 (AW (ι := Nat × World) (fun i => [(0, .slice ga la.length capa), (1, .slice gb lb.length capb), (5, .int .i64 (i.1 : Int))]) (fun i w' => w' = i.2 ∧ i.1 ≤ la.length ∧ F0 w w' ∧ ∀ j, j < i.1 → la[j]? = lb[j]?) (fun i => la.length - i.1)
  (0, w) ⟨V, V, V, trivial⟩ ⟨rfl, Nat.zero_le _, Fr.refl _ _, fun j hj => absurd hj (Nat.not_lt_zero j)⟩ ?_)
 rintro ⟨i, _⟩ w1 ⟨rfl, hi, h, hall⟩
 simp only at hi h hall ⊢
 refine Af (Af (Aa (Ac V V (Ac V V (AE V (Ay underlying27) V (Al V V (Bh (c := decide (i < la.length)) (decide_eq_decide.2 Int.ofNat_lt.symm)) V (Ae (AK V (fun ht => A_ fun a ha => Ad ?_) (fun hf => AQ fun a ha => Aq (Aq (A3 (Ad ?_))))))))))))
 · have hil : i < la.length := of_decide_eq_true ht
   obtain ⟨ta, hta⟩ : ∃ t, la[i]? = some t := ⟨_, List.getElem?_eq_getElem hil⟩
   obtain ⟨tb, htb⟩ : ∃ t, lb[i]? = some t := ⟨_, List.getElem?_eq_getElem (hle ▸ hil)⟩
   have hwa := B5 (List.mem_of_getElem? hta)
   obtain ⟨ba, oa, da, hixa, _, hlta, hAa, ra⟩ := hgeta i ta hta
   obtain ⟨bb, ob, db, hixb, _, hltb, hAb, rb⟩ := hgetb i tb htb
   refine A8 ha (Af (A1 ?_))
   have honea := Rep.one _ _ _ ra
   obtain ⟨wa, hsta, aba, fa⟩ := Dd (w := w1) (z := .agg Z.toArray) (zs := Z) Hd rfl hzl honea.1 honea.2
   refine Af (Aa (Ac V V (Ac V V (A0 V V (hixa _ underlying27 Hd V) V (Ai V (Ap (f := .st .template) Hd ra (h.at_ hlta hAa)) V (AO (hz _) V (An V V hsta (Ae ?_))))))))
   replace h : F0 w wa := h.trans fa
   have honeb := Rep.one _ _ _ rb
   obtain ⟨wb, hstb, abb, fb⟩ := Dd (w := wa) (z := .agg Z.toArray) (zs := Z) Hd rfl hzl honeb.1 honeb.2
   refine Af (Aa (Ac V V (Ac V V (A0 V V (hixb _ underlying27 Hd V) V (Ai V (Ap (f := .st .template) Hd rb (h.at_ hltb hAb)) V (AO (hz _) V (An V V hstb (Ae ?_))))))))
   replace h : F0 w wb := h.trans fb
   replace aba := (fb.blk _ aba.lt (fun h => h)).trans aba
   have hbase := h
   clear h hsta hstb fa fb
   generalize wa.heap.size = bxb at abb ⊢
   generalize w1.heap.size = bxa at aba ⊢
   replace aba : Blk wb bxa da 74 := aba
   replace ra := ra.fresh hbase
   replace rb := rb.fresh hbase
   have hltxa := aba.lt
   have hltxb := abb.lt
   have hAxa := aba.all
   have hAxb := abb.all
   obtain ⟨w1, hw1⟩ : ∃ w1, w1 = wb := ⟨_, rfl⟩
   have h : F0 wb w1 := by rw [hw1]; exact Fr.refl _ _
   rw [← hw1]
   clear hw1
   refine Dc [(0, .slice ga la.length capa), (1, .slice gb lb.length capb), (5, .int .i64 (i : Int)), (6, ptr bxa), (7, ptr bxb)] ⟨V, V, V, V, V, trivial⟩ ?_
   obtain ⟨fla, rfl, hlena, hFa⟩ := ra.st_inv
   obtain ⟨aa_0, fla, rfl, ra_0, hFa⟩ := hFa.cons_inv
   obtain ⟨aa_1, fla, rfl, ra_1, hFa⟩ := hFa.cons_inv
   obtain ⟨aa_2, fla, rfl, ra_2, hFa⟩ := hFa.cons_inv
   obtain ⟨aa_3, fla, rfl, ra_3, hFa⟩ := hFa.cons_inv
   obtain ⟨aa_4, fla, rfl, ra_4, hFa⟩ := hFa.cons_inv
   obtain ⟨aa_5, fla, rfl, ra_5, hFa⟩ := hFa.cons_inv
   obtain ⟨aa_6, fla, rfl, ra_6, hFa⟩ := hFa.cons_inv
   obtain ⟨aa_7, fla, rfl, ra_7, hFa⟩ := hFa.cons_inv
   obtain ⟨aa_8, fla, rfl, ra_8, hFa⟩ := hFa.cons_inv
   obtain ⟨aa_9, fla, rfl, ra_9, hFa⟩ := hFa.cons_inv
   obtain ⟨aa_10, fla, rfl, ra_10, hFa⟩ := hFa.cons_inv
   obtain ⟨aa_11, fla, rfl, ra_11, hFa⟩ := hFa.cons_inv
   obtain rfl := hFa.nil_inv
   simp only [Nat.zero_add, Nat.reduceAdd, Ty.size] at ra_0 ra_1 ra_2 ra_3 ra_4 ra_5 ra_6 ra_7 ra_8 ra_9 ra_10 ra_11
   obtain ⟨flb, rfl, hlenb, hFb⟩ := rb.st_inv
   obtain ⟨ab_0, flb, rfl, rb_0, hFb⟩ := hFb.cons_inv
   obtain ⟨ab_1, flb, rfl, rb_1, hFb⟩ := hFb.cons_inv
   obtain ⟨ab_2, flb, rfl, rb_2, hFb⟩ := hFb.cons_inv
   obtain ⟨ab_3, flb, rfl, rb_3, hFb⟩ := hFb.cons_inv
   obtain ⟨ab_4, flb, rfl, rb_4, hFb⟩ := hFb.cons_inv
   obtain ⟨ab_5, flb, rfl, rb_5, hFb⟩ := hFb.cons_inv
   obtain ⟨ab_6, flb, rfl, rb_6, hFb⟩ := hFb.cons_inv
   obtain ⟨ab_7, flb, rfl, rb_7, hFb⟩ := hFb.cons_inv
   obtain ⟨ab_8, flb, rfl, rb_8, hFb⟩ := hFb.cons_inv
   obtain ⟨ab_9, flb, rfl, rb_9, hFb⟩ := hFb.cons_inv
   obtain ⟨ab_10, flb, rfl, rb_10, hFb⟩ := hFb.cons_inv
   obtain ⟨ab_11, flb, rfl, rb_11, hFb⟩ := hFb.cons_inv
   obtain rfl := hFb.nil_inv
   simp only [Nat.zero_add, Nat.reduceAdd, Ty.size] at rb_0 rb_1 rb_2 rb_3 rb_4 rb_5 rb_6 rb_7 rb_8 rb_9 rb_10 rb_11
   refine Af (Af (Aa ?_))
   refine Ab V (HD _ _ _) V (Ai V (Ap (f := .str) Cc ra_1 (h.at_ hltxa (hAxa.sub 1 1))) V (Ab V (HD _ _ _) V (Ai V (Ap (f := .str) Cc rb_1 (h.at_ hltxb (hAxb.sub 1 1))) V (?_))))
   cases hq25 : C6 aa_1 ab_1 with
   | false =>
    refine AG V V (neq9.guard ra_1 rb_1 _ _ _) (neq9.run' hq25 ra_1 rb_1 _) V ?_
    refine AY _ _ _ V (Ae (Ax V ?_))
    exact Af (Aa (Ah V V (Ae (AA fun a ha => Ao (Aw (Ao (Ao (Aw (Ao (Au V ha V ⟨by rw [Bj hta htb (fun e => by cases e; exact Bd hq25 V)], hbase.trans h⟩))))))))))
   | true =>
    refine AG V V (neq9.guard ra_1 rb_1 _ _ _) (neq9.run' hq25 ra_1 rb_1 _) V (Ac V V (Ag (j := 5) V V V (Ab V (Hs _ _ _) V (Ag (j := 5) V V V (Ai V (Ap (f := .bool) Dp ra_3 (h.at_ hltxa (hAxa.sub 3 1))) V (Ag (j := 5) V V V (Ab V (Hs _ _ _) V (Ag (j := 5) V V V (Ai V (Ap (f := .bool) Dp rb_3 (h.at_ hltxb (hAxb.sub 3 1))) V (?_))))))))))
    cases hq26 : C6 aa_3 ab_3 with
    | false =>
     refine Ag (j := 5) V V V (AG V V (neq4.guard ra_3 rb_3 _ _ _) (neq4.run' hq26 ra_3 rb_3 _) V ?_)
     refine AY _ _ _ V (Ae (Ax V ?_))
     exact Af (Aa (Ah V V (Ae (AA fun a ha => Ao (Aw (Ao (Ao (Aw (Ao (Au V ha V ⟨by rw [Bj hta htb (fun e => by cases e; exact Bd hq26 V)], hbase.trans h⟩))))))))))
    | true =>
     refine Ag (j := 5) V V V (AG V V (neq4.guard ra_3 rb_3 _ _ _) (neq4.run' hq26 ra_3 rb_3 _) V (AI V V V (Ac V V (Ag (j := 12) V V V (Ab V (Hu _ _ _) V (Ag (j := 12) V V V (Ai V (Ap (f := .str) Cc ra_4 (h.at_ hltxa (hAxa.sub 4 1))) V (Ag (j := 12) V V V (Ab V (Hu _ _ _) V (Ag (j := 12) V V V (Ai V (Ap (f := .str) Cc rb_4 (h.at_ hltxb (hAxb.sub 4 1))) V (?_))))))))))))
     cases hq27 : C6 aa_4 ab_4 with
     | false =>
      refine Ag (j := 12) V V V (AG V V (neq9.guard ra_4 rb_4 _ _ _) (neq9.run' hq27 ra_4 rb_4 _) V ?_)
      refine AY _ _ _ V (Ae (Ax V ?_))
      exact Af (Aa (Ah V V (Ae (AA fun a ha => Ao (Aw (Ao (Ao (Aw (Ao (Au V ha V ⟨by rw [Bj hta htb (fun e => by cases e; exact Bd hq27 V)], hbase.trans h⟩))))))))))
     | true =>
      refine Ag (j := 12) V V V (AG V V (neq9.guard ra_4 rb_4 _ _ _) (neq9.run' hq27 ra_4 rb_4 _) V (AI V V V (Ac V V (Ag (j := 19) V V V (Ab V (HU _ _ _) V (Ag (j := 19) V V V (Ai V (Ap (f := .str) Cc ra_7 (h.at_ hltxa (hAxa.sub 7 1))) V (Ag (j := 19) V V V (Ab V (HU _ _ _) V (Ag (j := 19) V V V (Ai V (Ap (f := .str) Cc rb_7 (h.at_ hltxb (hAxb.sub 7 1))) V (?_))))))))))))
      cases hq28 : C6 aa_7 ab_7 with
      | false =>
       refine Ag (j := 19) V V V (AG V V (neq9.guard ra_7 rb_7 _ _ _) (neq9.run' hq28 ra_7 rb_7 _) V ?_)
       refine AY _ _ _ V (Ae (Ax V ?_))
       exact Af (Aa (Ah V V (Ae (AA fun a ha => Ao (Aw (Ao (Ao (Aw (Ao (Au V ha V ⟨by rw [Bj hta htb (fun e => by cases e; exact Bd hq28 V)], hbase.trans h⟩))))))))))
      | true =>
       refine Ag (j := 19) V V V (AG V V (neq9.guard ra_7 rb_7 _ _ _) (neq9.run' hq28 ra_7 rb_7 _) V (AI V V V (Ac V V (Ag (j := 26) V V V (Ab V (H_ _ _ _) V (Ag (j := 26) V V V (Ai V (Ap (f := .int) Cj ra_8 (h.at_ hltxa (hAxa.sub 8 1))) V (Ag (j := 26) V V V (Ab V (H_ _ _ _) V (Ag (j := 26) V V V (Ai V (Ap (f := .int) Cj rb_8 (h.at_ hltxb (hAxb.sub 8 1))) V (?_))))))))))))
       cases hq29 : C6 aa_8 ab_8 with
       | false =>
        refine Ag (j := 26) V V V (AG V V (neq3.guard ra_8 rb_8 _ _ _) (neq3.run' hq29 ra_8 rb_8 _) V ?_)
        refine AY _ _ _ V (Ae (Ax V ?_))
        exact Af (Aa (Ah V V (Ae (AA fun a ha => Ao (Aw (Ao (Ao (Aw (Ao (Au V ha V ⟨by rw [Bj hta htb (fun e => by cases e; exact Bd hq29 V)], hbase.trans h⟩))))))))))
       | true =>
        refine Ag (j := 26) V V V (AG V V (neq3.guard ra_8 rb_8 _ _ _) (neq3.run' hq29 ra_8 rb_8 _) V (AI V V V (Ac V V (Ag (j := 33) V V V (Ab V (HP _ _ _) V (Ag (j := 33) V V V (Ai V (Ap (f := .int) Cj ra_9 (h.at_ hltxa (hAxa.sub 9 1))) V (Ag (j := 33) V V V (Ab V (HP _ _ _) V (Ag (j := 33) V V V (Ai V (Ap (f := .int) Cj rb_9 (h.at_ hltxb (hAxb.sub 9 1))) V (?_))))))))))))
        cases hq30 : C6 aa_9 ab_9 with
        | false =>
         refine Ag (j := 33) V V V (AG V V (neq3.guard ra_9 rb_9 _ _ _) (neq3.run' hq30 ra_9 rb_9 _) V ?_)
         refine AY _ _ _ V (Ae (Ax V ?_))
         exact Af (Aa (Ah V V (Ae (AA fun a ha => Ao (Aw (Ao (Ao (Aw (Ao (Au V ha V ⟨by rw [Bj hta htb (fun e => by cases e; exact Bd hq30 V)], hbase.trans h⟩))))))))))
        | true =>
         refine Ag (j := 33) V V V (AG V V (neq3.guard ra_9 rb_9 _ _ _) (neq3.run' hq30 ra_9 rb_9 _) V (AI V V V (Ac V V (Ag (j := 40) V V V (Ab V (F_ _ _ _) V (Ag (j := 40) V V V (Ai V (Ap (f := .int) Cj ra_10 (h.at_ hltxa (hAxa.sub 10 1))) V (Ag (j := 40) V V V (Ab V (F_ _ _ _) V (Ag (j := 40) V V V (Ai V (Ap (f := .int) Cj rb_10 (h.at_ hltxb (hAxb.sub 10 1))) V (?_))))))))))))
         cases hq31 : C6 aa_10 ab_10 with
         | false =>
          refine Ag (j := 40) V V V (AG V V (neq3.guard ra_10 rb_10 _ _ _) (neq3.run' hq31 ra_10 rb_10 _) V ?_)
          refine AY _ _ _ V (Ae (Ax V ?_))
          exact Af (Aa (Ah V V (Ae (AA fun a ha => Ao (Aw (Ao (Ao (Aw (Ao (Au V ha V ⟨by rw [Bj hta htb (fun e => by cases e; exact Bd hq31 V)], hbase.trans h⟩))))))))))
         | true =>
          refine Ag (j := 40) V V V (AG V V (neq3.guard ra_10 rb_10 _ _ _) (neq3.run' hq31 ra_10 rb_10 _) V (AI V V V (Ac V V (Ag (j := 47) V V V (Ab V (Gp _ _ _) V (Ag (j := 47) V V V (Ai V (Ap (f := .int) Cj ra_11 (h.at_ hltxa (hAxa.sub 11 1))) V (Ag (j := 47) V V V (Ab V (Gp _ _ _) V (Ag (j := 47) V V V (Ai V (Ap (f := .int) Cj rb_11 (h.at_ hltxb (hAxb.sub 11 1))) V (?_))))))))))))
          cases hq32 : C6 aa_11 ab_11 with
          | false =>
           refine Ag (j := 47) V V V (AG V V (neq3.guard ra_11 rb_11 _ _ _) (neq3.run' hq32 ra_11 rb_11 _) V ?_)
           refine AY _ _ _ V (Ae (Ax V ?_))
           exact Af (Aa (Ah V V (Ae (AA fun a ha => Ao (Aw (Ao (Ao (Aw (Ao (Au V ha V ⟨by rw [Bj hta htb (fun e => by cases e; exact Bd hq32 V)], hbase.trans h⟩))))))))))
          | true =>
           refine Ag (j := 47) V V V (AG V V (neq3.guard ra_11 rb_11 _ _ _) (neq3.run' hq32 ra_11 rb_11 _) V (AI V V V (Ae (A9 V (A_ fun a ha => Ad ?_)))))
           refine A8 ha (Dc [(0, .slice ga la.length capa), (1, .slice gb lb.length capb), (5, .int .i64 (i : Int)), (6, ptr bxa), (7, ptr bxb)] ⟨V, V, V, V, V, trivial⟩ ?_)
           refine Af (Aa ?_)
           refine Ab V (HQ _ _ _) V (Ai V (Ap (f := .list (.st .expr)) Eh ra_0 (h.at_ hltxa (hAxa.sub 0 1))) V (Ab V (HQ _ _ _) V (Ai V (Ap (f := .list (.st .expr)) Eh rb_0 (h.at_ hltxb (hAxb.sub 0 1))) V (?_))))
           cases hq33 : C6 aa_0 ab_0 with
           | false =>
            refine Aj call90 V V (SEnc.call Ni hq33 ra_0 rb_0 h) ?_ Be
            rintro _ w1 ⟨rfl, h⟩
            refine Bt V V ?_
            refine AY _ _ _ V (Ae (Ax V ?_))
            exact Af (Aa (Ah V V (Ae (AA fun a ha => Aw (Ao (Ao (Aw (Ao (Au V ha V ⟨by rw [Bj hta htb (fun e => by cases e; exact Bd hq33 V)], hbase.trans h⟩)))))))))
           | true =>
            refine Aj call90 V V (SEnc.call Ni hq33 ra_0 rb_0 h) ?_ Be
            rintro _ w1 ⟨rfl, h⟩
            refine Bt V V (Ac V V (Ag (j := 6) V V V (Ab V (HE _ _ _) V (Ag (j := 6) V V V (Ai V (Ap (f := .list (.str)) D_ ra_2 (h.at_ hltxa (hAxa.sub 2 1))) V (Ag (j := 6) V V V (Ab V (HE _ _ _) V (Ag (j := 6) V V V (Ai V (Ap (f := .list (.str)) D_ rb_2 (h.at_ hltxb (hAxb.sub 2 1))) V (?_))))))))))
            cases hq34 : C6 aa_2 ab_2 with
            | false =>
             refine Ag (j := 6) V V V (Aj call91 V V (SEnc.call QD hq34 ra_2 rb_2 h) ?_ Be)
             rintro _ w1 ⟨rfl, h⟩
             refine Ag (j := 6) V V V (Bt V V ?_)
             refine AY _ _ _ V (Ae (Ax V ?_))
             exact Af (Aa (Ah V V (Ae (AA fun a ha => Aw (Ao (Ao (Aw (Ao (Au V ha V ⟨by rw [Bj hta htb (fun e => by cases e; exact Bd hq34 V)], hbase.trans h⟩)))))))))
            | true =>
             refine Ag (j := 6) V V V (Aj call91 V V (SEnc.call QD hq34 ra_2 rb_2 h) ?_ Be)
             rintro _ w1 ⟨rfl, h⟩
             refine Ag (j := 6) V V V (Bt V V (AI V V V (Ac V V (Ag (j := 14) V V V (Ab V (HC _ _ _) V (Ag (j := 14) V V V (Ai V (Ap (f := .list (.st .param)) GT ra_5 (h.at_ hltxa (hAxa.sub 5 1))) V (Ag (j := 14) V V V (Ab V (HC _ _ _) V (Ag (j := 14) V V V (Ai V (Ap (f := .list (.st .param)) GT rb_5 (h.at_ hltxb (hAxb.sub 5 1))) V (?_))))))))))))
             cases hq35 : C6 aa_5 ab_5 with
             | false =>
              refine Ag (j := 14) V V V (Aj call92 V V (SEnc.call sP hq35 ra_5 rb_5 h) ?_ Be)
              rintro _ w1 ⟨rfl, h⟩
              refine Ag (j := 14) V V V (Bt V V ?_)
              refine AY _ _ _ V (Ae (Ax V ?_))
              exact Af (Aa (Ah V V (Ae (AA fun a ha => Aw (Ao (Ao (Aw (Ao (Au V ha V ⟨by rw [Bj hta htb (fun e => by cases e; exact Bd hq35 V)], hbase.trans h⟩)))))))))
             | true =>
              refine Ag (j := 14) V V V (Aj call92 V V (SEnc.call sP hq35 ra_5 rb_5 h) ?_ Be)
              rintro _ w1 ⟨rfl, h⟩
              refine Ag (j := 14) V V V (Bt V V (AI V V V (Ac V V (Ag (j := 22) V V V (Ab V (Hx _ _ _) V (Ag (j := 22) V V V (Ai V (Ap (f := .list (.st .instr)) Dt ra_6 (h.at_ hltxa (hAxa.sub 6 1))) V (Ag (j := 22) V V V (Ab V (Hx _ _ _) V (Ag (j := 22) V V V (Ai V (Ap (f := .list (.st .instr)) Dt rb_6 (h.at_ hltxb (hAxb.sub 6 1))) V (?_))))))))))))
              cases hq36 : C6 aa_6 ab_6 with
              | false =>
               refine Ag (j := 22) V V V (Aj call93 V V (SEnc.call sI hq36 ra_6 rb_6 h) ?_ Be)
               rintro _ w1 ⟨rfl, h⟩
               refine Ag (j := 22) V V V (Bt V V ?_)
               refine AY _ _ _ V (Ae (Ax V ?_))
               exact Af (Aa (Ah V V (Ae (AA fun a ha => Aw (Ao (Ao (Aw (Ao (Au V ha V ⟨by rw [Bj hta htb (fun e => by cases e; exact Bd hq36 V)], hbase.trans h⟩)))))))))
              | true =>
               refine Ag (j := 22) V V V (Aj call93 V V (SEnc.call sI hq36 ra_6 rb_6 h) ?_ Be)
               rintro _ w1 ⟨rfl, h⟩
               refine Ag (j := 22) V V V (Bt V V (AI V V V (Ae (A9 V (A_ fun a ha => Az (Ad ?_))))))
               refine A8 ha (Aa (Ac V V (Al V V V V (Ah V V (A2 fun a ha => Ad ?_)))))
               exact ⟨(i + 1, w1), ha.weak ⟨rfl, rfl, congrArg some (AS (BS hil hmla)), trivial⟩, ⟨rfl, hil, hbase.trans h, C9 hall hta htb (by rw [AZ hq25, AZ hq26, AZ hq27, AZ hq28, AZ hq29, AZ hq30, AZ hq31, AZ hq32, AZ hq33, AZ hq34, AZ hq35, AZ hq36])⟩, Nat.sub_lt_sub_left hil (Nat.lt_succ_self i)⟩
 · have hend : i = la.length := Nat.le_antisymm hi (Nat.le_of_not_lt (of_decide_eq_false hf))
   exact A8 ha (Af (Aa (Ah V V (Ae (AA fun a ha => Au V ha V ⟨by rw [CA hle hend hall], h⟩)))))
theorem RF {t u : T} : SEnc 38 (.list (.st .dfn)) t u := by
 intro w S cs ds hr hk
 obtain ⟨la, rfl⟩ := hr.is_list
 obtain ⟨lb, rfl⟩ := hk.is_list
 obtain ⟨ga, capa, hva, hmla, hgeta⟩ := Bn hr
 obtain ⟨gb, capb, hvb, hmlb, hgetb⟩ := Bn hk
 rw [hva, hvb]
 obtain ⟨Z, hz, hzl⟩ : ∃ Z : List Value, (∀ w, (zeroValue 140).run prog w = .ok (.agg Z.toArray) w) ∧ Z.length = 27 := ⟨_, zeroValue140, rfl⟩
 refine AB 83 func38 V V V ?_
 refine Af (Aa (Ah V V (Ae ?_)))
 refine Af (Af (Aa (Ac V V (AE V (Ay underlying28) V (Ac V V (AE V (Ay underlying28) V (Al V V (BO (c := decide (la.length ≠ lb.length)) BZ) V (Ae (AK V (fun ht => ?_) (fun hf => A_ fun a ha => Ad ?_))))))))))
 · have hne : la.length ≠ lb.length := of_decide_eq_true ht
   refine Af (Aa (Ah V V (Ae (AA fun a ha => Ao (Au V ha V ⟨by rw [Da hne], Fr.refl _ _⟩)))))
 have hle : la.length = lb.length := Classical.byContradiction (of_decide_eq_false hf)
 refine A8 ha (Af (Af (Aa (Ah V V (Ae ?_)))))
 refine A1 (AW (ι := Nat × World) (fun i => [(0, .slice ga la.length capa), (1, .slice gb lb.length capb), (5, .int .i64 (i.1 : Int))]) (fun i w' => w' = i.2 ∧ i.1 ≤ la.length ∧ F0 w w' ∧ ∀ j, j < i.1 → la[j]? = lb[j]?) (fun i => la.length - i.1)
  (0, w) ⟨V, V, V, trivial⟩ ⟨rfl, Nat.zero_le _, Fr.refl _ _, fun j hj => absurd hj (Nat.not_lt_zero j)⟩ ?_)
 rintro ⟨i, _⟩ w1 ⟨rfl, hi, h, hall⟩
 simp only at hi h hall ⊢
 refine Af (Af (Aa (Ac V V (Ac V V (AE V (Ay underlying28) V (Al V V (Bh (c := decide (i < la.length)) (decide_eq_decide.2 Int.ofNat_lt.symm)) V (Ae (AK V (fun ht => A_ fun a ha => Ad ?_) (fun hf => AQ fun a ha => Aq (Aq (A3 (Ad ?_))))))))))))
 · have hil : i < la.length := of_decide_eq_true ht
   obtain ⟨ta, hta⟩ : ∃ t, la[i]? = some t := ⟨_, List.getElem?_eq_getElem hil⟩
   obtain ⟨tb, htb⟩ : ∃ t, lb[i]? = some t := ⟨_, List.getElem?_eq_getElem (hle ▸ hil)⟩
   have hwa := B5 (List.mem_of_getElem? hta)
   obtain ⟨ba, oa, da, hixa, _, hlta, hAa, ra⟩ := hgeta i ta hta
   obtain ⟨bb, ob, db, hixb, _, hltb, hAb, rb⟩ := hgetb i tb htb
   refine A8 ha (Af (A1 ?_))
   have honea := Rep.one _ _ _ ra
   obtain ⟨wa, hsta, aba, fa⟩ := Dd (w := w1) (z := .agg Z.toArray) (zs := Z) Et rfl hzl honea.1 honea.2
   refine Af (Aa (Ac V V (Ac V V (A0 V V (hixa _ underlying28 Et V) V (Ai V (Ap (f := .st .dfn) Et ra (h.at_ hlta hAa)) V (AO (hz _) V (An V V hsta (Ae ?_))))))))
   replace h : F0 w wa := h.trans fa
   have honeb := Rep.one _ _ _ rb
   obtain ⟨wb, hstb, abb, fb⟩ := Dd (w := wa) (z := .agg Z.toArray) (zs := Z) Et rfl hzl honeb.1 honeb.2
   refine Af (Aa (Ac V V (Ac V V (A0 V V (hixb _ underlying28 Et V) V (Ai V (Ap (f := .st .dfn) Et rb (h.at_ hltb hAb)) V (AO (hz _) V (An V V hstb (Ae ?_))))))))
   replace h : F0 w wb := h.trans fb
   replace aba := (fb.blk _ aba.lt (fun h => h)).trans aba
   have hbase := h
   clear h hsta hstb fa fb
   generalize wa.heap.size = bxb at abb ⊢
   generalize w1.heap.size = bxa at aba ⊢
   replace aba : Blk wb bxa da 140 := aba
   replace ra := ra.fresh hbase
   replace rb := rb.fresh hbase
   have hltxa := aba.lt
   have hltxb := abb.lt
   have hAxa := aba.all
   have hAxb := abb.all
   obtain ⟨w1, hw1⟩ : ∃ w1, w1 = wb := ⟨_, rfl⟩
   have h : F0 wb w1 := by rw [hw1]; exact Fr.refl _ _
   rw [← hw1]
   clear hw1
   refine Dc [(0, .slice ga la.length capa), (1, .slice gb lb.length capb), (5, .int .i64 (i : Int)), (6, ptr bxa), (7, ptr bxb)] ⟨V, V, V, V, V, trivial⟩ ?_
   obtain ⟨fla, rfl, hlena, hFa⟩ := ra.st_inv
   obtain ⟨aa_0, fla, rfl, ra_0, hFa⟩ := hFa.cons_inv
   obtain ⟨aa_1, fla, rfl, ra_1, hFa⟩ := hFa.cons_inv
   obtain ⟨aa_2, fla, rfl, ra_2, hFa⟩ := hFa.cons_inv
   obtain ⟨aa_3, fla, rfl, ra_3, hFa⟩ := hFa.cons_inv
   obtain ⟨aa_4, fla, rfl, ra_4, hFa⟩ := hFa.cons_inv
   obtain ⟨aa_5, fla, rfl, ra_5, hFa⟩ := hFa.cons_inv
   obtain ⟨aa_6, fla, rfl, ra_6, hFa⟩ := hFa.cons_inv
   obtain ⟨aa_7, fla, rfl, ra_7, hFa⟩ := hFa.cons_inv
   obtain rfl := hFa.nil_inv
   simp only [Nat.zero_add, Nat.reduceAdd, Ty.size, SN.size] at ra_0 ra_1 ra_2 ra_3 ra_4 ra_5 ra_6 ra_7
   obtain ⟨flb, rfl, hlenb, hFb⟩ := rb.st_inv
   obtain ⟨ab_0, flb, rfl, rb_0, hFb⟩ := hFb.cons_inv
   obtain ⟨ab_1, flb, rfl, rb_1, hFb⟩ := hFb.cons_inv
   obtain ⟨ab_2, flb, rfl, rb_2, hFb⟩ := hFb.cons_inv
   obtain ⟨ab_3, flb, rfl, rb_3, hFb⟩ := hFb.cons_inv
   obtain ⟨ab_4, flb, rfl, rb_4, hFb⟩ := hFb.cons_inv
   obtain ⟨ab_5, flb, rfl, rb_5, hFb⟩ := hFb.cons_inv
   obtain ⟨ab_6, flb, rfl, rb_6, hFb⟩ := hFb.cons_inv
   obtain ⟨ab_7, flb, rfl, rb_7, hFb⟩ := hFb.cons_inv
   obtain rfl := hFb.nil_inv
   simp only [Nat.zero_add, Nat.reduceAdd, Ty.size, SN.size] at rb_0 rb_1 rb_2 rb_3 rb_4 rb_5 rb_6 rb_7
   refine Af (Aa ?_)
   refine Ab V (FO _ _ _) V (Ai V (Ap (f := .str) Cc ra_0 (h.at_ hltxa (hAxa.sub 0 1))) V (Ab V (FO _ _ _) V (Ai V (Ap (f := .str) Cc rb_0 (h.at_ hltxb (hAxb.sub 0 1))) V (?_))))
   cases hq37 : C6 aa_0 ab_0 with
   | false =>
    refine AG V V (neq9.guard ra_0 rb_0 _ _ _) (neq9.run' hq37 ra_0 rb_0 _) V ?_
    refine AY _ _ _ V (Ae (Ax V ?_))
    exact Af (Aa (Ah V V (Ae (AA fun a ha => Aw (Ao (Ao (Aw (Ao (Au V ha V ⟨by rw [Bj hta htb (fun e => by cases e; exact Bd hq37 V)], hbase.trans h⟩)))))))))
   | true =>
    refine AG V V (neq9.guard ra_0 rb_0 _ _ _) (neq9.run' hq37 ra_0 rb_0 _) V (Ac V V (Ag (j := 5) V V V (Ab V (Gc _ _ _) V (Ag (j := 5) V V V (Ai V (Ap (f := .st .type) D9 ra_2 (h.at_ hltxa (hAxa.sub 2 5))) V (Ag (j := 5) V V V (Ab V (Gc _ _ _) V (Ag (j := 5) V V V (Ai V (Ap (f := .st .type) D9 rb_2 (h.at_ hltxb (hAxb.sub 2 5))) V (?_))))))))))
    cases hq38 : C6 aa_2 ab_2 with
    | false =>
     refine Ag (j := 5) V V V (AG V V (neq63.guard ra_2 rb_2 _ _ _) (neq63.run' hq38 ra_2 rb_2 _) V ?_)
     refine AY _ _ _ V (Ae (Ax V ?_))
     exact Af (Aa (Ah V V (Ae (AA fun a ha => Aw (Ao (Ao (Aw (Ao (Au V ha V ⟨by rw [Bj hta htb (fun e => by cases e; exact Bd hq38 V)], hbase.trans h⟩)))))))))
    | true =>
     refine Ag (j := 5) V V V (AG V V (neq63.guard ra_2 rb_2 _ _ _) (neq63.run' hq38 ra_2 rb_2 _) V (AI V V V (Ac V V (Ag (j := 12) V V V (Ab V (FS _ _ _) V (Ag (j := 12) V V V (Ai V (Ap (f := .str) Cc ra_4 (h.at_ hltxa (hAxa.sub 23 1))) V (Ag (j := 12) V V V (Ab V (FS _ _ _) V (Ag (j := 12) V V V (Ai V (Ap (f := .str) Cc rb_4 (h.at_ hltxb (hAxb.sub 23 1))) V (?_))))))))))))
     cases hq39 : C6 aa_4 ab_4 with
     | false =>
      refine Ag (j := 12) V V V (AG V V (neq9.guard ra_4 rb_4 _ _ _) (neq9.run' hq39 ra_4 rb_4 _) V ?_)
      refine AY _ _ _ V (Ae (Ax V ?_))
      exact Af (Aa (Ah V V (Ae (AA fun a ha => Aw (Ao (Ao (Aw (Ao (Au V ha V ⟨by rw [Bj hta htb (fun e => by cases e; exact Bd hq39 V)], hbase.trans h⟩)))))))))
     | true =>
      refine Ag (j := 12) V V V (AG V V (neq9.guard ra_4 rb_4 _ _ _) (neq9.run' hq39 ra_4 rb_4 _) V (AI V V V (Ac V V (Ag (j := 19) V V V (Ab V (Gw _ _ _) V (Ag (j := 19) V V V (Ai V (Ap (f := .int) Cj ra_5 (h.at_ hltxa (hAxa.sub 24 1))) V (Ag (j := 19) V V V (Ab V (Gw _ _ _) V (Ag (j := 19) V V V (Ai V (Ap (f := .int) Cj rb_5 (h.at_ hltxb (hAxb.sub 24 1))) V (?_))))))))))))
      cases hq40 : C6 aa_5 ab_5 with
      | false =>
       refine Ag (j := 19) V V V (AG V V (neq3.guard ra_5 rb_5 _ _ _) (neq3.run' hq40 ra_5 rb_5 _) V ?_)
       refine AY _ _ _ V (Ae (Ax V ?_))
       exact Af (Aa (Ah V V (Ae (AA fun a ha => Aw (Ao (Ao (Aw (Ao (Au V ha V ⟨by rw [Bj hta htb (fun e => by cases e; exact Bd hq40 V)], hbase.trans h⟩)))))))))
      | true =>
       refine Ag (j := 19) V V V (AG V V (neq3.guard ra_5 rb_5 _ _ _) (neq3.run' hq40 ra_5 rb_5 _) V (AI V V V (Ac V V (Ag (j := 26) V V V (Ab V (FA _ _ _) V (Ag (j := 26) V V V (Ai V (Ap (f := .int) Cj ra_6 (h.at_ hltxa (hAxa.sub 25 1))) V (Ag (j := 26) V V V (Ab V (FA _ _ _) V (Ag (j := 26) V V V (Ai V (Ap (f := .int) Cj rb_6 (h.at_ hltxb (hAxb.sub 25 1))) V (?_))))))))))))
       cases hq41 : C6 aa_6 ab_6 with
       | false =>
        refine Ag (j := 26) V V V (AG V V (neq3.guard ra_6 rb_6 _ _ _) (neq3.run' hq41 ra_6 rb_6 _) V ?_)
        refine AY _ _ _ V (Ae (Ax V ?_))
        exact Af (Aa (Ah V V (Ae (AA fun a ha => Aw (Ao (Ao (Aw (Ao (Au V ha V ⟨by rw [Bj hta htb (fun e => by cases e; exact Bd hq41 V)], hbase.trans h⟩)))))))))
       | true =>
        refine Ag (j := 26) V V V (AG V V (neq3.guard ra_6 rb_6 _ _ _) (neq3.run' hq41 ra_6 rb_6 _) V (AI V V V (Ac V V (Ag (j := 33) V V V (Ab V (Gu _ _ _) V (Ag (j := 33) V V V (Ai V (Ap (f := .int) Cj ra_7 (h.at_ hltxa (hAxa.sub 26 1))) V (Ag (j := 33) V V V (Ab V (Gu _ _ _) V (Ag (j := 33) V V V (Ai V (Ap (f := .int) Cj rb_7 (h.at_ hltxb (hAxb.sub 26 1))) V (?_))))))))))))
        cases hq42 : C6 aa_7 ab_7 with
        | false =>
         refine Ag (j := 33) V V V (AG V V (neq3.guard ra_7 rb_7 _ _ _) (neq3.run' hq42 ra_7 rb_7 _) V ?_)
         refine AY _ _ _ V (Ae (Ax V ?_))
         exact Af (Aa (Ah V V (Ae (AA fun a ha => Aw (Ao (Ao (Aw (Ao (Au V ha V ⟨by rw [Bj hta htb (fun e => by cases e; exact Bd hq42 V)], hbase.trans h⟩)))))))))
        | true =>
         refine Ag (j := 33) V V V (AG V V (neq3.guard ra_7 rb_7 _ _ _) (neq3.run' hq42 ra_7 rb_7 _) V (AI V V V (Ac V V (Ag (j := 40) V V V (Ab V (Gf _ _ _) V (Ag (j := 40) V V V (Ai V (Ap (f := .list (.st .param)) GT ra_1 (h.at_ hltxa (hAxa.sub 1 1))) V (Ag (j := 40) V V V (Ab V (Gf _ _ _) V (Ag (j := 40) V V V (Ai V (Ap (f := .list (.st .param)) GT rb_1 (h.at_ hltxb (hAxb.sub 1 1))) V (?_))))))))))))
         cases hq43 : C6 aa_1 ab_1 with
         | false =>
          refine Ag (j := 40) V V V (Aj call92 V V (SEnc.call sP hq43 ra_1 rb_1 h) ?_ Be)
          rintro _ w1 ⟨rfl, h⟩
          refine Ag (j := 40) V V V (Bt V V ?_)
          refine AY _ _ _ V (Ae (Ax V ?_))
          exact Af (Aa (Ah V V (Ae (AA fun a ha => Aw (Ao (Ao (Aw (Ao (Au V ha V ⟨by rw [Bj hta htb (fun e => by cases e; exact Bd hq43 V)], hbase.trans h⟩)))))))))
         | true =>
          refine Ag (j := 40) V V V (Aj call92 V V (SEnc.call sP hq43 ra_1 rb_1 h) ?_ Be)
          rintro _ w1 ⟨rfl, h⟩
          refine Ag (j := 40) V V V (Bt V V (AI V V V (Ac V V (Ag (j := 48) V V V (Ab V (FZ _ _ _) V (Ag (j := 48) V V V (Ai V (Ap (f := .st .expr) BY ra_3 (h.at_ hltxa (hAxa.sub 7 16))) V (Ag (j := 48) V V V (Ab V (FZ _ _ _) V (Ag (j := 48) V V V (Ai V (Ap (f := .st .expr) BY rb_3 (h.at_ hltxb (hAxb.sub 7 16))) V (?_))))))))))))
          cases hq44 : C6 aa_3 ab_3 with
          | false =>
           refine Ag (j := 48) V V V (Aj call94 V V (SEnc.call (sX _ _) hq44 ra_3 rb_3 h) ?_ Be)
           rintro _ w1 ⟨rfl, h⟩
           refine Ag (j := 48) V V V (Bt V V ?_)
           refine AY _ _ _ V (Ae (Ax V ?_))
           exact Af (Aa (Ah V V (Ae (AA fun a ha => Aw (Ao (Ao (Aw (Ao (Au V ha V ⟨by rw [Bj hta htb (fun e => by cases e; exact Bd hq44 V)], hbase.trans h⟩)))))))))
          | true =>
           refine Ag (j := 48) V V V (Aj call94 V V (SEnc.call (sX _ _) hq44 ra_3 rb_3 h) ?_ Be)
           rintro _ w1 ⟨rfl, h⟩
           refine Ag (j := 48) V V V (Bt V V (AI V V V (Ae (A9 V (A_ fun a ha => Az (Ad ?_))))))
           refine A8 ha (Aa (Ac V V (Al V V V V (Ah V V (A2 fun a ha => Ad ?_)))))
           exact ⟨(i + 1, w1), ha.weak ⟨rfl, rfl, congrArg some (AS (BS hil hmla)), trivial⟩, ⟨rfl, hil, hbase.trans h, C9 hall hta htb (by rw [AZ hq37, AZ hq38, AZ hq39, AZ hq40, AZ hq41, AZ hq42, AZ hq43, AZ hq44])⟩, Nat.sub_lt_sub_left hil (Nat.lt_succ_self i)⟩
 · have hend : i = la.length := Nat.le_antisymm hi (Nat.le_of_not_lt (of_decide_eq_false hf))
   exact A8 ha (Af (Aa (Ah V V (Ae (AA fun a ha => Au V ha V ⟨by rw [CA hle hend hall], h⟩)))))
theorem RT {t u : T} : SEnc 39 (.list (.st .global)) t u := by
 intro w S cs ds hr hk
 obtain ⟨la, rfl⟩ := hr.is_list
 obtain ⟨lb, rfl⟩ := hk.is_list
 obtain ⟨ga, capa, hva, hmla, hgeta⟩ := Bn hr
 obtain ⟨gb, capb, hvb, hmlb, hgetb⟩ := Bn hk
 rw [hva, hvb]
 obtain ⟨Z, hz, hzl⟩ : ∃ Z : List Value, (∀ w, (zeroValue 144).run prog w = .ok (.agg Z.toArray) w) ∧ Z.length = 29 := ⟨_, zeroValue144, rfl⟩
 refine AB 97 func39 V V V ?_
 refine Af (Aa (Ah V V (Ae ?_)))
 refine Af (Af (Aa (Ac V V (AE V (Ay underlying29) V (Ac V V (AE V (Ay underlying29) V (Al V V (BO (c := decide (la.length ≠ lb.length)) BZ) V (Ae (AK V (fun ht => ?_) (fun hf => A_ fun a ha => Ad ?_))))))))))
 · have hne : la.length ≠ lb.length := of_decide_eq_true ht
   refine Af (Aa (Ah V V (Ae (AA fun a ha => Ao (Au V ha V ⟨by rw [Da hne], Fr.refl _ _⟩)))))
 have hle : la.length = lb.length := Classical.byContradiction (of_decide_eq_false hf)
 refine A8 ha (Af (Af (Aa (Ah V V (Ae ?_)))))
 refine A1 (AW (ι := Nat × World) (fun i => [(0, .slice ga la.length capa), (1, .slice gb lb.length capb), (5, .int .i64 (i.1 : Int))]) (fun i w' => w' = i.2 ∧ i.1 ≤ la.length ∧ F0 w w' ∧ ∀ j, j < i.1 → la[j]? = lb[j]?) (fun i => la.length - i.1)
  (0, w) ⟨V, V, V, trivial⟩ ⟨rfl, Nat.zero_le _, Fr.refl _ _, fun j hj => absurd hj (Nat.not_lt_zero j)⟩ ?_)
 rintro ⟨i, _⟩ w1 ⟨rfl, hi, h, hall⟩
 simp only at hi h hall ⊢
 refine Af (Af (Aa (Ac V V (Ac V V (AE V (Ay underlying29) V (Al V V (Bh (c := decide (i < la.length)) (decide_eq_decide.2 Int.ofNat_lt.symm)) V (Ae (AK V (fun ht => A_ fun a ha => Ad ?_) (fun hf => AQ fun a ha => Aq (Aq (A3 (Ad ?_))))))))))))
 · have hil : i < la.length := of_decide_eq_true ht
   obtain ⟨ta, hta⟩ : ∃ t, la[i]? = some t := ⟨_, List.getElem?_eq_getElem hil⟩
   obtain ⟨tb, htb⟩ : ∃ t, lb[i]? = some t := ⟨_, List.getElem?_eq_getElem (hle ▸ hil)⟩
   have hwa := B5 (List.mem_of_getElem? hta)
   obtain ⟨ba, oa, da, hixa, _, hlta, hAa, ra⟩ := hgeta i ta hta
   obtain ⟨bb, ob, db, hixb, _, hltb, hAb, rb⟩ := hgetb i tb htb
   refine A8 ha (Af (A1 ?_))
   have honea := Rep.one _ _ _ ra
   obtain ⟨wa, hsta, aba, fa⟩ := Dd (w := w1) (z := .agg Z.toArray) (zs := Z) Em rfl hzl honea.1 honea.2
   refine Af (Aa (Ac V V (Ac V V (A0 V V (hixa _ underlying29 Em V) V (Ai V (Ap (f := .st .global) Em ra (h.at_ hlta hAa)) V (AO (hz _) V (An V V hsta (Ae ?_))))))))
   replace h : F0 w wa := h.trans fa
   have honeb := Rep.one _ _ _ rb
   obtain ⟨wb, hstb, abb, fb⟩ := Dd (w := wa) (z := .agg Z.toArray) (zs := Z) Em rfl hzl honeb.1 honeb.2
   refine Af (Aa (Ac V V (Ac V V (A0 V V (hixb _ underlying29 Em V) V (Ai V (Ap (f := .st .global) Em rb (h.at_ hltb hAb)) V (AO (hz _) V (An V V hstb (Ae ?_))))))))
   replace h : F0 w wb := h.trans fb
   replace aba := (fb.blk _ aba.lt (fun h => h)).trans aba
   have hbase := h
   clear h hsta hstb fa fb
   generalize wa.heap.size = bxb at abb ⊢
   generalize w1.heap.size = bxa at aba ⊢
   replace aba : Blk wb bxa da 144 := aba
   replace ra := ra.fresh hbase
   replace rb := rb.fresh hbase
   have hltxa := aba.lt
   have hltxb := abb.lt
   have hAxa := aba.all
   have hAxb := abb.all
   obtain ⟨w1, hw1⟩ : ∃ w1, w1 = wb := ⟨_, rfl⟩
   have h : F0 wb w1 := by rw [hw1]; exact Fr.refl _ _
   rw [← hw1]
   clear hw1
   refine Dc [(0, .slice ga la.length capa), (1, .slice gb lb.length capb), (5, .int .i64 (i : Int)), (6, ptr bxa), (7, ptr bxb)] ⟨V, V, V, V, V, trivial⟩ ?_
   obtain ⟨fla, rfl, hlena, hFa⟩ := ra.st_inv
   obtain ⟨aa_0, fla, rfl, ra_0, hFa⟩ := hFa.cons_inv
   obtain ⟨aa_1, fla, rfl, ra_1, hFa⟩ := hFa.cons_inv
   obtain ⟨aa_2, fla, rfl, ra_2, hFa⟩ := hFa.cons_inv
   obtain ⟨aa_3, fla, rfl, ra_3, hFa⟩ := hFa.cons_inv
   obtain ⟨aa_4, fla, rfl, ra_4, hFa⟩ := hFa.cons_inv
   obtain ⟨aa_5, fla, rfl, ra_5, hFa⟩ := hFa.cons_inv
   obtain ⟨aa_6, fla, rfl, ra_6, hFa⟩ := hFa.cons_inv
   obtain ⟨aa_7, fla, rfl, ra_7, hFa⟩ := hFa.cons_inv
   obtain ⟨aa_8, fla, rfl, ra_8, hFa⟩ := hFa.cons_inv
   obtain ⟨aa_9, fla, rfl, ra_9, hFa⟩ := hFa.cons_inv
   obtain rfl := hFa.nil_inv
   simp only [Nat.zero_add, Nat.reduceAdd, Ty.size, SN.size] at ra_0 ra_1 ra_2 ra_3 ra_4 ra_5 ra_6 ra_7 ra_8 ra_9
   obtain ⟨flb, rfl, hlenb, hFb⟩ := rb.st_inv
   obtain ⟨ab_0, flb, rfl, rb_0, hFb⟩ := hFb.cons_inv
   obtain ⟨ab_1, flb, rfl, rb_1, hFb⟩ := hFb.cons_inv
   obtain ⟨ab_2, flb, rfl, rb_2, hFb⟩ := hFb.cons_inv
   obtain ⟨ab_3, flb, rfl, rb_3, hFb⟩ := hFb.cons_inv
   obtain ⟨ab_4, flb, rfl, rb_4, hFb⟩ := hFb.cons_inv
   obtain ⟨ab_5, flb, rfl, rb_5, hFb⟩ := hFb.cons_inv
   obtain ⟨ab_6, flb, rfl, rb_6, hFb⟩ := hFb.cons_inv
   obtain ⟨ab_7, flb, rfl, rb_7, hFb⟩ := hFb.cons_inv
   obtain ⟨ab_8, flb, rfl, rb_8, hFb⟩ := hFb.cons_inv
   obtain ⟨ab_9, flb, rfl, rb_9, hFb⟩ := hFb.cons_inv
   obtain rfl := hFb.nil_inv
   simp only [Nat.zero_add, Nat.reduceAdd, Ty.size, SN.size] at rb_0 rb_1 rb_2 rb_3 rb_4 rb_5 rb_6 rb_7 rb_8 rb_9
   refine Af (Aa ?_)
   refine Ab V (FL _ _ _) V (Ai V (Ap (f := .str) Cc ra_0 (h.at_ hltxa (hAxa.sub 0 1))) V (Ab V (FL _ _ _) V (Ai V (Ap (f := .str) Cc rb_0 (h.at_ hltxb (hAxb.sub 0 1))) V (?_))))
   cases hq45 : C6 aa_0 ab_0 with
   | false =>
    refine AG V V (neq9.guard ra_0 rb_0 _ _ _) (neq9.run' hq45 ra_0 rb_0 _) V ?_
    refine AY _ _ _ V (Ae (Ax V ?_))
    exact Af (Aa (Ah V V (Ae (AA fun a ha => Aw (Ao (Ao (Aw (Ao (Au V ha V ⟨by rw [Bj hta htb (fun e => by cases e; exact Bd hq45 V)], hbase.trans h⟩)))))))))
   | true =>
    refine AG V V (neq9.guard ra_0 rb_0 _ _ _) (neq9.run' hq45 ra_0 rb_0 _) V (Ac V V (Ag (j := 5) V V V (Ab V (FH _ _ _) V (Ag (j := 5) V V V (Ai V (Ap (f := .bool) Dp ra_1 (h.at_ hltxa (hAxa.sub 1 1))) V (Ag (j := 5) V V V (Ab V (FH _ _ _) V (Ag (j := 5) V V V (Ai V (Ap (f := .bool) Dp rb_1 (h.at_ hltxb (hAxb.sub 1 1))) V (?_))))))))))
    cases hq46 : C6 aa_1 ab_1 with
    | false =>
     refine Ag (j := 5) V V V (AG V V (neq4.guard ra_1 rb_1 _ _ _) (neq4.run' hq46 ra_1 rb_1 _) V ?_)
     refine AY _ _ _ V (Ae (Ax V ?_))
     exact Af (Aa (Ah V V (Ae (AA fun a ha => Aw (Ao (Ao (Aw (Ao (Au V ha V ⟨by rw [Bj hta htb (fun e => by cases e; exact Bd hq46 V)], hbase.trans h⟩)))))))))
    | true =>
     refine Ag (j := 5) V V V (AG V V (neq4.guard ra_1 rb_1 _ _ _) (neq4.run' hq46 ra_1 rb_1 _) V (AI V V V (Ac V V (Ag (j := 12) V V V (Ab V (FI _ _ _) V (Ag (j := 12) V V V (Ai V (Ap (f := .st .type) D9 ra_2 (h.at_ hltxa (hAxa.sub 2 5))) V (Ag (j := 12) V V V (Ab V (FI _ _ _) V (Ag (j := 12) V V V (Ai V (Ap (f := .st .type) D9 rb_2 (h.at_ hltxb (hAxb.sub 2 5))) V (?_))))))))))))
     cases hq47 : C6 aa_2 ab_2 with
     | false =>
      refine Ag (j := 12) V V V (AG V V (neq63.guard ra_2 rb_2 _ _ _) (neq63.run' hq47 ra_2 rb_2 _) V ?_)
      refine AY _ _ _ V (Ae (Ax V ?_))
      exact Af (Aa (Ah V V (Ae (AA fun a ha => Aw (Ao (Ao (Aw (Ao (Au V ha V ⟨by rw [Bj hta htb (fun e => by cases e; exact Bd hq47 V)], hbase.trans h⟩)))))))))
     | true =>
      refine Ag (j := 12) V V V (AG V V (neq63.guard ra_2 rb_2 _ _ _) (neq63.run' hq47 ra_2 rb_2 _) V (AI V V V (Ac V V (Ag (j := 19) V V V (Ab V (FF _ _ _) V (Ag (j := 19) V V V (Ai V (Ap (f := .bool) Dp ra_3 (h.at_ hltxa (hAxa.sub 7 1))) V (Ag (j := 19) V V V (Ab V (FF _ _ _) V (Ag (j := 19) V V V (Ai V (Ap (f := .bool) Dp rb_3 (h.at_ hltxb (hAxb.sub 7 1))) V (?_))))))))))))
      cases hq48 : C6 aa_3 ab_3 with
      | false =>
       refine Ag (j := 19) V V V (AG V V (neq4.guard ra_3 rb_3 _ _ _) (neq4.run' hq48 ra_3 rb_3 _) V ?_)
       refine AY _ _ _ V (Ae (Ax V ?_))
       exact Af (Aa (Ah V V (Ae (AA fun a ha => Aw (Ao (Ao (Aw (Ao (Au V ha V ⟨by rw [Bj hta htb (fun e => by cases e; exact Bd hq48 V)], hbase.trans h⟩)))))))))
      | true =>
       refine Ag (j := 19) V V V (AG V V (neq4.guard ra_3 rb_3 _ _ _) (neq4.run' hq48 ra_3 rb_3 _) V (AI V V V (Ac V V (Ag (j := 26) V V V (Ab V (FQ _ _ _) V (Ag (j := 26) V V V (Ai V (Ap (f := .str) Cc ra_6 (h.at_ hltxa (hAxa.sub 25 1))) V (Ag (j := 26) V V V (Ab V (FQ _ _ _) V (Ag (j := 26) V V V (Ai V (Ap (f := .str) Cc rb_6 (h.at_ hltxb (hAxb.sub 25 1))) V (?_))))))))))))
       cases hq49 : C6 aa_6 ab_6 with
       | false =>
        refine Ag (j := 26) V V V (AG V V (neq9.guard ra_6 rb_6 _ _ _) (neq9.run' hq49 ra_6 rb_6 _) V ?_)
        refine AY _ _ _ V (Ae (Ax V ?_))
        exact Af (Aa (Ah V V (Ae (AA fun a ha => Aw (Ao (Ao (Aw (Ao (Au V ha V ⟨by rw [Bj hta htb (fun e => by cases e; exact Bd hq49 V)], hbase.trans h⟩)))))))))
       | true =>
        refine Ag (j := 26) V V V (AG V V (neq9.guard ra_6 rb_6 _ _ _) (neq9.run' hq49 ra_6 rb_6 _) V (AI V V V (Ac V V (Ag (j := 33) V V V (Ab V (F2 _ _ _) V (Ag (j := 33) V V V (Ai V (Ap (f := .int) Cj ra_7 (h.at_ hltxa (hAxa.sub 26 1))) V (Ag (j := 33) V V V (Ab V (F2 _ _ _) V (Ag (j := 33) V V V (Ai V (Ap (f := .int) Cj rb_7 (h.at_ hltxb (hAxb.sub 26 1))) V (?_))))))))))))
        cases hq50 : C6 aa_7 ab_7 with
        | false =>
         refine Ag (j := 33) V V V (AG V V (neq3.guard ra_7 rb_7 _ _ _) (neq3.run' hq50 ra_7 rb_7 _) V ?_)
         refine AY _ _ _ V (Ae (Ax V ?_))
         exact Af (Aa (Ah V V (Ae (AA fun a ha => Aw (Ao (Ao (Aw (Ao (Au V ha V ⟨by rw [Bj hta htb (fun e => by cases e; exact Bd hq50 V)], hbase.trans h⟩)))))))))
        | true =>
         refine Ag (j := 33) V V V (AG V V (neq3.guard ra_7 rb_7 _ _ _) (neq3.run' hq50 ra_7 rb_7 _) V (AI V V V (Ac V V (Ag (j := 40) V V V (Ab V (Gh _ _ _) V (Ag (j := 40) V V V (Ai V (Ap (f := .int) Cj ra_8 (h.at_ hltxa (hAxa.sub 27 1))) V (Ag (j := 40) V V V (Ab V (Gh _ _ _) V (Ag (j := 40) V V V (Ai V (Ap (f := .int) Cj rb_8 (h.at_ hltxb (hAxb.sub 27 1))) V (?_))))))))))))
         cases hq51 : C6 aa_8 ab_8 with
         | false =>
          refine Ag (j := 40) V V V (AG V V (neq3.guard ra_8 rb_8 _ _ _) (neq3.run' hq51 ra_8 rb_8 _) V ?_)
          refine AY _ _ _ V (Ae (Ax V ?_))
          exact Af (Aa (Ah V V (Ae (AA fun a ha => Aw (Ao (Ao (Aw (Ao (Au V ha V ⟨by rw [Bj hta htb (fun e => by cases e; exact Bd hq51 V)], hbase.trans h⟩)))))))))
         | true =>
          refine Ag (j := 40) V V V (AG V V (neq3.guard ra_8 rb_8 _ _ _) (neq3.run' hq51 ra_8 rb_8 _) V (AI V V V (Ac V V (Ag (j := 47) V V V (Ab V (FW _ _ _) V (Ag (j := 47) V V V (Ai V (Ap (f := .int) Cj ra_9 (h.at_ hltxa (hAxa.sub 28 1))) V (Ag (j := 47) V V V (Ab V (FW _ _ _) V (Ag (j := 47) V V V (Ai V (Ap (f := .int) Cj rb_9 (h.at_ hltxb (hAxb.sub 28 1))) V (?_))))))))))))
          cases hq52 : C6 aa_9 ab_9 with
          | false =>
           refine Ag (j := 47) V V V (AG V V (neq3.guard ra_9 rb_9 _ _ _) (neq3.run' hq52 ra_9 rb_9 _) V ?_)
           refine AY _ _ _ V (Ae (Ax V ?_))
           exact Af (Aa (Ah V V (Ae (AA fun a ha => Aw (Ao (Ao (Aw (Ao (Au V ha V ⟨by rw [Bj hta htb (fun e => by cases e; exact Bd hq52 V)], hbase.trans h⟩)))))))))
          | true =>
           refine Ag (j := 47) V V V (AG V V (neq3.guard ra_9 rb_9 _ _ _) (neq3.run' hq52 ra_9 rb_9 _) V (AI V V V (Ac V V (Ag (j := 54) V V V (Ab V (Fw _ _ _) V (Ag (j := 54) V V V (Ai V (Ap (f := .st .expr) BY ra_4 (h.at_ hltxa (hAxa.sub 8 16))) V (Ag (j := 54) V V V (Ab V (Fw _ _ _) V (Ag (j := 54) V V V (Ai V (Ap (f := .st .expr) BY rb_4 (h.at_ hltxb (hAxb.sub 8 16))) V (?_))))))))))))
           cases hq53 : C6 aa_4 ab_4 with
           | false =>
            refine Ag (j := 54) V V V (Aj call94 V V (SEnc.call (sX _ _) hq53 ra_4 rb_4 h) ?_ Be)
            rintro _ w1 ⟨rfl, h⟩
            refine Ag (j := 54) V V V (Bt V V ?_)
            refine AY _ _ _ V (Ae (Ax V ?_))
            exact Af (Aa (Ah V V (Ae (AA fun a ha => Aw (Ao (Ao (Aw (Ao (Au V ha V ⟨by rw [Bj hta htb (fun e => by cases e; exact Bd hq53 V)], hbase.trans h⟩)))))))))
           | true =>
            refine Ag (j := 54) V V V (Aj call94 V V (SEnc.call (sX _ _) hq53 ra_4 rb_4 h) ?_ Be)
            rintro _ w1 ⟨rfl, h⟩
            refine Ag (j := 54) V V V (Bt V V (AI V V V (Ac V V (Ag (j := 62) V V V (Ab V (FV _ _ _) V (Ag (j := 62) V V V (Ai V (Ap (f := .list (.st .instr)) Dt ra_5 (h.at_ hltxa (hAxa.sub 24 1))) V (Ag (j := 62) V V V (Ab V (FV _ _ _) V (Ag (j := 62) V V V (Ai V (Ap (f := .list (.st .instr)) Dt rb_5 (h.at_ hltxb (hAxb.sub 24 1))) V (?_))))))))))))
            cases hq54 : C6 aa_5 ab_5 with
            | false =>
             refine Ag (j := 62) V V V (Aj call93 V V (SEnc.call sI hq54 ra_5 rb_5 h) ?_ Be)
             rintro _ w1 ⟨rfl, h⟩
             refine Ag (j := 62) V V V (Bt V V ?_)
             refine AY _ _ _ V (Ae (Ax V ?_))
             exact Af (Aa (Ah V V (Ae (AA fun a ha => Aw (Ao (Ao (Aw (Ao (Au V ha V ⟨by rw [Bj hta htb (fun e => by cases e; exact Bd hq54 V)], hbase.trans h⟩)))))))))
            | true =>
             refine Ag (j := 62) V V V (Aj call93 V V (SEnc.call sI hq54 ra_5 rb_5 h) ?_ Be)
             rintro _ w1 ⟨rfl, h⟩
             refine Ag (j := 62) V V V (Bt V V (AI V V V (Ae (A9 V (A_ fun a ha => Az (Ad ?_))))))
             refine A8 ha (Aa (Ac V V (Al V V V V (Ah V V (A2 fun a ha => Ad ?_)))))
             exact ⟨(i + 1, w1), ha.weak ⟨rfl, rfl, congrArg some (AS (BS hil hmla)), trivial⟩, ⟨rfl, hil, hbase.trans h, C9 hall hta htb (by rw [AZ hq45, AZ hq46, AZ hq47, AZ hq48, AZ hq49, AZ hq50, AZ hq51, AZ hq52, AZ hq53, AZ hq54])⟩, Nat.sub_lt_sub_left hil (Nat.lt_succ_self i)⟩
 · have hend : i = la.length := Nat.le_antisymm hi (Nat.le_of_not_lt (of_decide_eq_false hf))
   exact A8 ha (Af (Aa (Ah V V (Ae (AA fun a ha => Au V ha V ⟨by rw [CA hle hend hall], h⟩)))))
theorem RM {t u : T} : SEnc 40 (.list (.st .key)) t u := by
 intro w S cs ds hr hk
 obtain ⟨la, rfl⟩ := hr.is_list
 obtain ⟨lb, rfl⟩ := hk.is_list
 obtain ⟨ga, capa, hva, hmla, hgeta⟩ := Bn hr
 obtain ⟨gb, capb, hvb, hmlb, hgetb⟩ := Bn hk
 rw [hva, hvb]
 refine AB 56 func40 V V V ?_
 refine Af (Aa (Ah V V (Ae ?_)))
 refine Af (Af (Aa (Ac V V (AE V (Ay underlying30) V (Ac V V (AE V (Ay underlying30) V (Al V V (BO (c := decide (la.length ≠ lb.length)) BZ) V (Ae (AK V (fun ht => ?_) (fun hf => A_ fun a ha => Ad ?_))))))))))
 · have hne : la.length ≠ lb.length := of_decide_eq_true ht
   refine Af (Aa (Ah V V (Ae (AA fun a ha => Ao (Au V ha V ⟨by rw [Da hne], Fr.refl _ _⟩)))))
 have hle : la.length = lb.length := Classical.byContradiction (of_decide_eq_false hf)
 refine A8 ha (Af (Af (Aa (Ah V V (Ae ?_)))))
 refine A1 (AW (ι := Nat × World) (fun i => [(0, .slice ga la.length capa), (1, .slice gb lb.length capb), (5, .int .i64 (i.1 : Int))]) (fun i w' => w' = i.2 ∧ i.1 ≤ la.length ∧ F0 w w' ∧ ∀ j, j < i.1 → la[j]? = lb[j]?) (fun i => la.length - i.1)
  (0, w) ⟨V, V, V, trivial⟩ ⟨rfl, Nat.zero_le _, Fr.refl _ _, fun j hj => absurd hj (Nat.not_lt_zero j)⟩ ?_)
 rintro ⟨i, _⟩ w1 ⟨rfl, hi, h, hall⟩
 simp only at hi h hall ⊢
 refine Af (Af (Aa (Ac V V (Ac V V (AE V (Ay underlying30) V (Al V V (Bh (c := decide (i < la.length)) (decide_eq_decide.2 Int.ofNat_lt.symm)) V (Ae (AK V (fun ht => A_ fun a ha => Ad ?_) (fun hf => AQ fun a ha => Aq (Aq (A3 (Ad ?_))))))))))))
 · have hil : i < la.length := of_decide_eq_true ht
   obtain ⟨ta, hta⟩ : ∃ t, la[i]? = some t := ⟨_, List.getElem?_eq_getElem hil⟩
   obtain ⟨tb, htb⟩ : ∃ t, lb[i]? = some t := ⟨_, List.getElem?_eq_getElem (hle ▸ hil)⟩
   have hwa := B5 (List.mem_of_getElem? hta)
   obtain ⟨ba, oa, da, hixa, _, hlta, hAa, ra⟩ := hgeta i ta hta
   obtain ⟨bb, ob, db, hixb, _, hltb, hAb, rb⟩ := hgetb i tb htb
   obtain ⟨fla, rfl, hlena, hFa⟩ := ra.st_inv
   obtain ⟨aa_0, fla, rfl, ra_0, hFa⟩ := hFa.cons_inv
   obtain ⟨aa_1, fla, rfl, ra_1, hFa⟩ := hFa.cons_inv
   obtain ⟨aa_2, fla, rfl, ra_2, hFa⟩ := hFa.cons_inv
   obtain rfl := hFa.nil_inv
   simp only [Nat.zero_add, Nat.reduceAdd, Ty.size, SN.size] at ra_0 ra_1 ra_2
   obtain ⟨flb, rfl, hlenb, hFb⟩ := rb.st_inv
   obtain ⟨ab_0, flb, rfl, rb_0, hFb⟩ := hFb.cons_inv
   obtain ⟨ab_1, flb, rfl, rb_1, hFb⟩ := hFb.cons_inv
   obtain ⟨ab_2, flb, rfl, rb_2, hFb⟩ := hFb.cons_inv
   obtain rfl := hFb.nil_inv
   simp only [Nat.zero_add, Nat.reduceAdd, Ty.size, SN.size] at rb_0 rb_1 rb_2
   refine A8 ha (Af (A1 (Af (C_ (F0 w) CE (by kernel_rfl) h.drawn ?_))))
   clear h
   refine A6 V V (A6 V V (AC V V (fun w => hixa w underlying30 Ha V) V (A5 V (fun w => Hy w _ _) V (AM V (fun w h => Ap (f := .str) Cc ra_0 (h.at_ hlta (hAa.sub 0 1))) V (A6 V V (A6 V V (AC V V (fun w => hixb w underlying30 Ha V) V (A5 V (fun w => Hy w _ _) V (AM V (fun w h => Ap (f := .str) Cc rb_0 (h.at_ hltb (hAb.sub 0 1))) V (?_))))))))))
   cases hq55 : C6 aa_0 ab_0 with
   | false =>
    refine Bc V V (neq9.guard ra_0 rb_0 _ _) (neq9.run' hq55 ra_0 rb_0) V ?_
    refine BI _ _ _ V (Bm fun w1 h => Ax V ?_)
    exact Af (Aa (Ah V V (Ae (AA fun a ha => Aw (Ao (Ao (Aw (Ao (Au V ha V ⟨by rw [Bj hta htb (fun e => by cases e; exact Bd hq55 V)], h⟩)))))))))
   | true =>
    refine Bc V V (neq9.guard ra_0 rb_0 _ _) (neq9.run' hq55 ra_0 rb_0) V (A6 V V (Ak (j := 11) V V V (A6 V V (Ak (j := 11) V V V (A6 V V (Ak (j := 11) V V V (AC V V (fun w => hixa w underlying30 Ha V) V (Ak (j := 11) V V V (A5 V (fun w => Ia w _ _) V (Ak (j := 11) V V V (AM V (fun w h => Ap (f := .list (.st .expr)) Eh ra_1 (h.at_ hlta (hAa.sub 1 1))) V (Ak (j := 11) V V V (A6 V V (Ak (j := 11) V V V (A6 V V (Ak (j := 11) V V V (AC V V (fun w => hixb w underlying30 Ha V) V (Ak (j := 11) V V V (A5 V (fun w => Ia w _ _) V (Ak (j := 11) V V V (AM V (fun w h => Ap (f := .list (.st .expr)) Eh rb_1 (h.at_ hltb (hAb.sub 1 1))) V (?_))))))))))))))))))))))
    cases hq56 : C6 aa_1 ab_1 with
    | false =>
     refine Ak (j := 11) V V V (Cf call90 V V (SEnc.quiet Ni hq56 ra_1 rb_1) (Ak (j := 11) V V V (C4 V V ?_)))
     refine BI _ _ _ V (Bm fun w1 h => Ax V ?_)
     exact Af (Aa (Ah V V (Ae (AA fun a ha => Aw (Ao (Ao (Aw (Ao (Au V ha V ⟨by rw [Bj hta htb (fun e => by cases e; exact Bd hq56 V)], h⟩)))))))))
    | true =>
     refine Ak (j := 11) V V V (Cf call90 V V (SEnc.quiet Ni hq56 ra_1 rb_1) (Ak (j := 11) V V V (C4 V V (BM V V V (A6 V V (Ak (j := 25) V V V (A6 V V (Ak (j := 25) V V V (A6 V V (Ak (j := 25) V V V (AC V V (fun w => hixa w underlying30 Ha V) V (Ak (j := 25) V V V (A5 V (fun w => HK w _ _) V (Ak (j := 25) V V V (AM V (fun w h => Ap (f := .st .expr) BY ra_2 (h.at_ hlta (hAa.sub 2 16))) V (Ak (j := 25) V V V (A6 V V (Ak (j := 25) V V V (A6 V V (Ak (j := 25) V V V (AC V V (fun w => hixb w underlying30 Ha V) V (Ak (j := 25) V V V (A5 V (fun w => HK w _ _) V (Ak (j := 25) V V V (AM V (fun w h => Ap (f := .st .expr) BY rb_2 (h.at_ hltb (hAb.sub 2 16))) V (?_))))))))))))))))))))))))))
     cases hq57 : C6 aa_2 ab_2 with
     | false =>
      refine Ak (j := 25) V V V (Cf call94 V V (SEnc.quiet (sX _ _) hq57 ra_2 rb_2) (Ak (j := 25) V V V (C4 V V ?_)))
      refine BI _ _ _ V (Bm fun w1 h => Ax V ?_)
      exact Af (Aa (Ah V V (Ae (AA fun a ha => Aw (Ao (Ao (Aw (Ao (Au V ha V ⟨by rw [Bj hta htb (fun e => by cases e; exact Bd hq57 V)], h⟩)))))))))
     | true =>
      refine Ak (j := 25) V V V (Cf call94 V V (SEnc.quiet (sX _ _) hq57 ra_2 rb_2) (Ak (j := 25) V V V (C4 V V (BM V V V (Bm fun w1 h => A9 V (A_ fun a ha => Az (Ad ?_)))))))
      refine A8 ha (Aa (Ac V V (Al V V V V (Ah V V (A2 fun a ha => Ad ?_)))))
      exact ⟨(i + 1, w1), ha.weak ⟨rfl, rfl, congrArg some (AS (BS hil hmla)), trivial⟩, ⟨rfl, hil, h, C9 hall hta htb (by rw [AZ hq55, AZ hq56, AZ hq57])⟩, Nat.sub_lt_sub_left hil (Nat.lt_succ_self i)⟩
 · have hend : i = la.length := Nat.le_antisymm hi (Nat.le_of_not_lt (of_decide_eq_false hf))
   exact A8 ha (Af (Aa (Ah V V (Ae (AA fun a ha => Au V ha V ⟨by rw [CA hle hend hall], h⟩)))))
theorem RK {t u : T} : SEnc 42 (.list (.st .output)) t u := by
 intro w S cs ds hr hk
 obtain ⟨la, rfl⟩ := hr.is_list
 obtain ⟨lb, rfl⟩ := hk.is_list
 obtain ⟨ga, capa, hva, hmla, hgeta⟩ := Bn hr
 obtain ⟨gb, capb, hvb, hmlb, hgetb⟩ := Bn hk
 rw [hva, hvb]
 refine AB 81 func42 V V V ?_
 refine Af (Aa (Ah V V (Ae ?_)))
 refine Af (Af (Aa (Ac V V (AE V (Ay underlying33) V (Ac V V (AE V (Ay underlying33) V (Al V V (BO (c := decide (la.length ≠ lb.length)) BZ) V (Ae (AK V (fun ht => ?_) (fun hf => A_ fun a ha => Ad ?_))))))))))
 · have hne : la.length ≠ lb.length := of_decide_eq_true ht
   refine Af (Aa (Ah V V (Ae (AA fun a ha => Ao (Au V ha V ⟨by rw [Da hne], Fr.refl _ _⟩)))))
 have hle : la.length = lb.length := Classical.byContradiction (of_decide_eq_false hf)
 refine A8 ha (Af (Af (Aa (Ah V V (Ae ?_)))))
 refine A1 (AW (ι := Nat × World) (fun i => [(0, .slice ga la.length capa), (1, .slice gb lb.length capb), (5, .int .i64 (i.1 : Int))]) (fun i w' => w' = i.2 ∧ i.1 ≤ la.length ∧ F0 w w' ∧ ∀ j, j < i.1 → la[j]? = lb[j]?) (fun i => la.length - i.1)
  (0, w) ⟨V, V, V, trivial⟩ ⟨rfl, Nat.zero_le _, Fr.refl _ _, fun j hj => absurd hj (Nat.not_lt_zero j)⟩ ?_)
 rintro ⟨i, _⟩ w1 ⟨rfl, hi, h, hall⟩
 simp only at hi h hall ⊢
 refine Af (Af (Aa (Ac V V (Ac V V (AE V (Ay underlying33) V (Al V V (Bh (c := decide (i < la.length)) (decide_eq_decide.2 Int.ofNat_lt.symm)) V (Ae (AK V (fun ht => A_ fun a ha => Ad ?_) (fun hf => AQ fun a ha => Aq (Aq (A3 (Ad ?_))))))))))))
 · have hil : i < la.length := of_decide_eq_true ht
   obtain ⟨ta, hta⟩ : ∃ t, la[i]? = some t := ⟨_, List.getElem?_eq_getElem hil⟩
   obtain ⟨tb, htb⟩ : ∃ t, lb[i]? = some t := ⟨_, List.getElem?_eq_getElem (hle ▸ hil)⟩
   have hwa := B5 (List.mem_of_getElem? hta)
   obtain ⟨ba, oa, da, hixa, _, hlta, hAa, ra⟩ := hgeta i ta hta
   obtain ⟨bb, ob, db, hixb, _, hltb, hAb, rb⟩ := hgetb i tb htb
   obtain ⟨fla, rfl, hlena, hFa⟩ := ra.st_inv
   obtain ⟨aa_0, fla, rfl, ra_0, hFa⟩ := hFa.cons_inv
   obtain ⟨aa_1, fla, rfl, ra_1, hFa⟩ := hFa.cons_inv
   obtain ⟨aa_2, fla, rfl, ra_2, hFa⟩ := hFa.cons_inv
   obtain ⟨aa_3, fla, rfl, ra_3, hFa⟩ := hFa.cons_inv
   obtain ⟨aa_4, fla, rfl, ra_4, hFa⟩ := hFa.cons_inv
   obtain rfl := hFa.nil_inv
   simp only [Nat.zero_add, Nat.reduceAdd, Ty.size] at ra_0 ra_1 ra_2 ra_3 ra_4
   obtain ⟨flb, rfl, hlenb, hFb⟩ := rb.st_inv
   obtain ⟨ab_0, flb, rfl, rb_0, hFb⟩ := hFb.cons_inv
   obtain ⟨ab_1, flb, rfl, rb_1, hFb⟩ := hFb.cons_inv
   obtain ⟨ab_2, flb, rfl, rb_2, hFb⟩ := hFb.cons_inv
   obtain ⟨ab_3, flb, rfl, rb_3, hFb⟩ := hFb.cons_inv
   obtain ⟨ab_4, flb, rfl, rb_4, hFb⟩ := hFb.cons_inv
   obtain rfl := hFb.nil_inv
   simp only [Nat.zero_add, Nat.reduceAdd, Ty.size] at rb_0 rb_1 rb_2 rb_3 rb_4
   refine A8 ha (Af (A1 (Af (C_ (F0 w) CE (by kernel_rfl) h.drawn ?_))))
   clear h
   refine A6 V V (A6 V V (AC V V (fun w => hixa w underlying33 Dw V) V (A5 V (fun w => Fq w _ _) V (AM V (fun w h => Ap (f := .str) Cc ra_0 (h.at_ hlta (hAa.sub 0 1))) V (A6 V V (A6 V V (AC V V (fun w => hixb w underlying33 Dw V) V (A5 V (fun w => Fq w _ _) V (AM V (fun w h => Ap (f := .str) Cc rb_0 (h.at_ hltb (hAb.sub 0 1))) V (?_))))))))))
   cases hq58 : C6 aa_0 ab_0 with
   | false =>
    refine Bc V V (neq9.guard ra_0 rb_0 _ _) (neq9.run' hq58 ra_0 rb_0) V ?_
    refine BI _ _ _ V (Bm fun w1 h => Ax V ?_)
    exact Af (Aa (Ah V V (Ae (AA fun a ha => Aw (Ao (Ao (Aw (Ao (Au V ha V ⟨by rw [Bj hta htb (fun e => by cases e; exact Bd hq58 V)], h⟩)))))))))
   | true =>
    refine Bc V V (neq9.guard ra_0 rb_0 _ _) (neq9.run' hq58 ra_0 rb_0) V (A6 V V (Ak (j := 11) V V V (A6 V V (Ak (j := 11) V V V (A6 V V (Ak (j := 11) V V V (AC V V (fun w => hixa w underlying33 Dw V) V (Ak (j := 11) V V V (A5 V (fun w => FK w _ _) V (Ak (j := 11) V V V (AM V (fun w h => Ap (f := .str) Cc ra_1 (h.at_ hlta (hAa.sub 1 1))) V (Ak (j := 11) V V V (A6 V V (Ak (j := 11) V V V (A6 V V (Ak (j := 11) V V V (AC V V (fun w => hixb w underlying33 Dw V) V (Ak (j := 11) V V V (A5 V (fun w => FK w _ _) V (Ak (j := 11) V V V (AM V (fun w h => Ap (f := .str) Cc rb_1 (h.at_ hltb (hAb.sub 1 1))) V (?_))))))))))))))))))))))
    cases hq59 : C6 aa_1 ab_1 with
    | false =>
     refine Ak (j := 11) V V V (Bc V V (neq9.guard ra_1 rb_1 _ _) (neq9.run' hq59 ra_1 rb_1) V ?_)
     refine BI _ _ _ V (Bm fun w1 h => Ax V ?_)
     exact Af (Aa (Ah V V (Ae (AA fun a ha => Aw (Ao (Ao (Aw (Ao (Au V ha V ⟨by rw [Bj hta htb (fun e => by cases e; exact Bd hq59 V)], h⟩)))))))))
    | true =>
     refine Ak (j := 11) V V V (Bc V V (neq9.guard ra_1 rb_1 _ _) (neq9.run' hq59 ra_1 rb_1) V (BM V V V (A6 V V (Ak (j := 24) V V V (A6 V V (Ak (j := 24) V V V (A6 V V (Ak (j := 24) V V V (AC V V (fun w => hixa w underlying33 Dw V) V (Ak (j := 24) V V V (A5 V (fun w => Gj w _ _) V (Ak (j := 24) V V V (AM V (fun w h => Ap (f := .bool) Dp ra_2 (h.at_ hlta (hAa.sub 2 1))) V (Ak (j := 24) V V V (A6 V V (Ak (j := 24) V V V (A6 V V (Ak (j := 24) V V V (AC V V (fun w => hixb w underlying33 Dw V) V (Ak (j := 24) V V V (A5 V (fun w => Gj w _ _) V (Ak (j := 24) V V V (AM V (fun w h => Ap (f := .bool) Dp rb_2 (h.at_ hltb (hAb.sub 2 1))) V (?_))))))))))))))))))))))))
     cases hq60 : C6 aa_2 ab_2 with
     | false =>
      refine Ak (j := 24) V V V (Bc V V (neq4.guard ra_2 rb_2 _ _) (neq4.run' hq60 ra_2 rb_2) V ?_)
      refine BI _ _ _ V (Bm fun w1 h => Ax V ?_)
      exact Af (Aa (Ah V V (Ae (AA fun a ha => Aw (Ao (Ao (Aw (Ao (Au V ha V ⟨by rw [Bj hta htb (fun e => by cases e; exact Bd hq60 V)], h⟩)))))))))
     | true =>
      refine Ak (j := 24) V V V (Bc V V (neq4.guard ra_2 rb_2 _ _) (neq4.run' hq60 ra_2 rb_2) V (BM V V V (A6 V V (Ak (j := 37) V V V (A6 V V (Ak (j := 37) V V V (A6 V V (Ak (j := 37) V V V (AC V V (fun w => hixa w underlying33 Dw V) V (Ak (j := 37) V V V (A5 V (fun w => Gd w _ _) V (Ak (j := 37) V V V (AM V (fun w h => Ap (f := .bool) Dp ra_3 (h.at_ hlta (hAa.sub 3 1))) V (Ak (j := 37) V V V (A6 V V (Ak (j := 37) V V V (A6 V V (Ak (j := 37) V V V (AC V V (fun w => hixb w underlying33 Dw V) V (Ak (j := 37) V V V (A5 V (fun w => Gd w _ _) V (Ak (j := 37) V V V (AM V (fun w h => Ap (f := .bool) Dp rb_3 (h.at_ hltb (hAb.sub 3 1))) V (?_))))))))))))))))))))))))
      cases hq61 : C6 aa_3 ab_3 with
      | false =>
       refine Ak (j := 37) V V V (Bc V V (neq4.guard ra_3 rb_3 _ _) (neq4.run' hq61 ra_3 rb_3) V ?_)
       refine BI _ _ _ V (Bm fun w1 h => Ax V ?_)
       exact Af (Aa (Ah V V (Ae (AA fun a ha => Aw (Ao (Ao (Aw (Ao (Au V ha V ⟨by rw [Bj hta htb (fun e => by cases e; exact Bd hq61 V)], h⟩)))))))))
      | true =>
       refine Ak (j := 37) V V V (Bc V V (neq4.guard ra_3 rb_3 _ _) (neq4.run' hq61 ra_3 rb_3) V (BM V V V (A6 V V (Ak (j := 50) V V V (A6 V V (Ak (j := 50) V V V (A6 V V (Ak (j := 50) V V V (AC V V (fun w => hixa w underlying33 Dw V) V (Ak (j := 50) V V V (A5 V (fun w => FD w _ _) V (Ak (j := 50) V V V (AM V (fun w h => Ap (f := .list (.str)) D_ ra_4 (h.at_ hlta (hAa.sub 4 1))) V (Ak (j := 50) V V V (A6 V V (Ak (j := 50) V V V (A6 V V (Ak (j := 50) V V V (AC V V (fun w => hixb w underlying33 Dw V) V (Ak (j := 50) V V V (A5 V (fun w => FD w _ _) V (Ak (j := 50) V V V (AM V (fun w h => Ap (f := .list (.str)) D_ rb_4 (h.at_ hltb (hAb.sub 4 1))) V (?_))))))))))))))))))))))))
       cases hq62 : C6 aa_4 ab_4 with
       | false =>
        refine Ak (j := 50) V V V (Cf call91 V V (SEnc.quiet QD hq62 ra_4 rb_4) (Ak (j := 50) V V V (C4 V V ?_)))
        refine BI _ _ _ V (Bm fun w1 h => Ax V ?_)
        exact Af (Aa (Ah V V (Ae (AA fun a ha => Aw (Ao (Ao (Aw (Ao (Au V ha V ⟨by rw [Bj hta htb (fun e => by cases e; exact Bd hq62 V)], h⟩)))))))))
       | true =>
        refine Ak (j := 50) V V V (Cf call91 V V (SEnc.quiet QD hq62 ra_4 rb_4) (Ak (j := 50) V V V (C4 V V (BM V V V (Bm fun w1 h => A9 V (A_ fun a ha => Az (Ad ?_)))))))
        refine A8 ha (Aa (Ac V V (Al V V V V (Ah V V (A2 fun a ha => Ad ?_)))))
        exact ⟨(i + 1, w1), ha.weak ⟨rfl, rfl, congrArg some (AS (BS hil hmla)), trivial⟩, ⟨rfl, hil, h, C9 hall hta htb (by rw [AZ hq58, AZ hq59, AZ hq60, AZ hq61, AZ hq62])⟩, Nat.sub_lt_sub_left hil (Nat.lt_succ_self i)⟩
 · have hend : i = la.length := Nat.le_antisymm hi (Nat.le_of_not_lt (of_decide_eq_false hf))
   exact A8 ha (Af (Aa (Ah V V (Ae (AA fun a ha => Au V ha V ⟨by rw [CA hle hend hall], h⟩)))))
end Go.Sx
