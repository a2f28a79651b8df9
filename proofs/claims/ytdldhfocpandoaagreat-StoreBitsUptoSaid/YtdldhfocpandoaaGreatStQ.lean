import Derived.Test.YtdldhfocpandoaaGreatStP
namespace Go.Sx
open Go.Proofs
set_option maxHeartbeats 2000000 in
theorem s94 : ∀ (N : Nat) (t u : T), t.wt ≤ N → SEnc 94 (.st .expr) t u := by
 intro N
 induction N using Nat.strongRecOn with
 | _ N IH =>
 intro t u hN w S cs ds hr hk
 refine cW 116 Tryz.func94 rfl rfl rfl ?_
 refine W.sq (W.rg (WL.box (v := .agg cs.toArray) rfl rfl ?_))
 have fa : F0 w (w.alloc (.cells cs.toArray 66)) := Fr.alloc _ _ _
 have aba : Blk (w.alloc (.cells cs.toArray 66)) w.heap.size cs 66 := Blk.alloc_new
 show WL _ _ _ _ _ _ _ (w.alloc (.cells cs.toArray 66))
 generalize w.alloc (.cells cs.toArray 66) = wa at fa aba ⊢
 generalize w.heap.size = bxa at aba ⊢
 refine WL.box (v := .agg ds.toArray) rfl rfl ?_
 have fb : F0 wa (wa.alloc (.cells ds.toArray 66)) := Fr.alloc _ _ _
 have abb : Blk (wa.alloc (.cells ds.toArray 66)) wa.heap.size ds 66 := Blk.alloc_new
 show WL _ _ _ _ _ _ _ (wa.alloc (.cells ds.toArray 66))
 generalize wa.alloc (.cells ds.toArray 66) = wb at fb abb ⊢
 generalize wa.heap.size = bxb at abb ⊢
 have fw : F0 w wb := fa.trans fb
 replace aba : Blk wb bxa cs 66 := (fb.blk _ aba.lt (fun h => h)).trans aba
 have ra := hr.fresh fw
 have rb := hk.fresh fw
 have hlta := aba.lt
 have hltb := abb.lt
 have hAa := aba.all
 have hAb := abb.all
 have h : F0 wb wb := Fr.refl _ _
 obtain ⟨fla, rfl, hlena, hFa⟩ := ra.st_inv
 obtain ⟨aa_0, fla, rfl, ra_0, hFa⟩ := hFa.cons_inv
 obtain ⟨aa_1, fla, rfl, ra_1, hFa⟩ := hFa.cons_inv
 obtain ⟨aa_2, fla, rfl, ra_2, hFa⟩ := hFa.cons_inv
 obtain ⟨aa_3, fla, rfl, ra_3, hFa⟩ := hFa.cons_inv
 obtain ⟨aa_4, fla, rfl, ra_4, hFa⟩ := hFa.cons_inv
 obtain ⟨aa_5, fla, rfl, ra_5, hFa⟩ := hFa.cons_inv
 obtain ⟨aa_6, fla, rfl, ra_6, hFa⟩ := hFa.cons_inv
 obtain ⟨aa_7, fla, rfl, ra_7, hFa⟩ := hFa.cons_inv
 obtain ⟨aa_8, fla, rfl, ra_8, hFa⟩ := hFa.cons_inv
 obtain ⟨aa_9, fla, rfl, ra_9, hFa⟩ := hFa.cons_inv
 obtain rfl := hFa.nil_inv
 simp only [Nat.zero_add, Nat.reduceAdd, Ty.size, SN.size] at ra_0 ra_1 ra_2 ra_3 ra_4 ra_5 ra_6 ra_7 ra_8 ra_9
 obtain ⟨flb, rfl, hlenb, hFb⟩ := rb.st_inv
 obtain ⟨ab_0, flb, rfl, rb_0, hFb⟩ := hFb.cons_inv
 obtain ⟨ab_1, flb, rfl, rb_1, hFb⟩ := hFb.cons_inv
 obtain ⟨ab_2, flb, rfl, rb_2, hFb⟩ := hFb.cons_inv
 obtain ⟨ab_3, flb, rfl, rb_3, hFb⟩ := hFb.cons_inv
 obtain ⟨ab_4, flb, rfl, rb_4, hFb⟩ := hFb.cons_inv
 obtain ⟨ab_5, flb, rfl, rb_5, hFb⟩ := hFb.cons_inv
 obtain ⟨ab_6, flb, rfl, rb_6, hFb⟩ := hFb.cons_inv
 obtain ⟨ab_7, flb, rfl, rb_7, hFb⟩ := hFb.cons_inv
 obtain ⟨ab_8, flb, rfl, rb_8, hFb⟩ := hFb.cons_inv
 obtain ⟨ab_9, flb, rfl, rb_9, hFb⟩ := hFb.cons_inv
 obtain rfl := hFb.nil_inv
 simp only [Nat.zero_add, Nat.reduceAdd, Ty.size, SN.size] at rb_0 rb_1 rb_2 rb_3 rb_4 rb_5 rb_6 rb_7 rb_8 rb_9
 refine WL.an rfl rfl (WL.kp [(2, ptr bxa), (3, ptr bxb)] ⟨rfl, rfl, trivial⟩ ?_)
 obtain ⟨w1, hw1⟩ : ∃ w1, w1 = wb := ⟨_, rfl⟩
 rw [← hw1]
 have h : F0 wb w1 := by rw [hw1]; exact h
 clear hw1
 obtain ⟨la8, rfl⟩ := ra_8.is_list
 obtain ⟨ga8, capa8, hva8, hmla8, hgeta8⟩ := list_at ra_8
 obtain ⟨la9, rfl⟩ := ra_9.is_list
 obtain ⟨ga9, capa9, hva9, hmla9, hgeta9⟩ := list_at ra_9
 obtain ⟨lb8, rfl⟩ := rb_8.is_list
 obtain ⟨gb8, capb8, hvb8, hmlb8, hgetb8⟩ := list_at rb_8
 obtain ⟨lb9, rfl⟩ := rb_9.is_list
 obtain ⟨gb9, capb9, hvb9, hmlb9, hgetb9⟩ := list_at rb_9
 refine W.sq (W.sq (W.rg ?_))
 refine WL.fa rfl (fld66_8 _ _ _) rfl (WL.ld rfl (load_list hva8 iy44 ra_8 (h.at_ hlta (hAa.sub 14 1))) rfl (WL.len rfl (lS Tryz.underlying44) rfl (WL.fa rfl (fld66_8 _ _ _) rfl (WL.ld rfl (load_list hvb8 iy44 rb_8 (h.at_ hltb (hAb.sub 14 1))) rfl (WL.len rfl (lS Tryz.underlying44) rfl (?_))))))
 cases hn1 : decide (la8.length ≠ lb8.length) with
 | true =>
  refine WL.bi rfl rfl (run_neq (c := true) (hn1.symm.trans neq_cast)) rfl ?_
  refine WL.skip _ _ _ rfl (WL.nx (W.ct rfl ?_))
  exact W.sq (W.rg (WL.an rfl rfl (WL.nx (W.ret fun a ha => tR (pR rfl ha rfl ⟨by rw [teq_false (fun e => by cases e; simp at hn1)], fw.trans h⟩)))))
 | false =>
  refine WL.bi rfl rfl (run_neq (c := false) (hn1.symm.trans neq_cast)) rfl (WL.mv rfl rfl (WL.gd (j := 7) rfl rfl rfl (WL.fa rfl (fld66_9 _ _ _) rfl (WL.gd (j := 7) rfl rfl rfl (WL.ld rfl (load_list hva9 iy64 ra_9 (h.at_ hlta (hAa.sub 15 1))) rfl (WL.gd (j := 7) rfl rfl rfl (WL.len rfl (lS Tryz.underlying64) rfl (WL.gd (j := 7) rfl rfl rfl (WL.fa rfl (fld66_9 _ _ _) rfl (WL.gd (j := 7) rfl rfl rfl (WL.ld rfl (load_list hvb9 iy64 rb_9 (h.at_ hltb (hAb.sub 15 1))) rfl (WL.gd (j := 7) rfl rfl rfl (WL.len rfl (lS Tryz.underlying64) rfl (?_))))))))))))))
  cases hn2 : decide (la9.length ≠ lb9.length) with
  | true =>
   refine WL.gd (j := 7) rfl rfl rfl (WL.bi rfl rfl (run_neq (c := true) (hn2.symm.trans neq_cast)) rfl ?_)
   refine WL.skip _ _ _ rfl (WL.nx (W.ct rfl ?_))
   exact W.sq (W.rg (WL.an rfl rfl (WL.nx (W.ret fun a ha => tR (pR rfl ha rfl ⟨by rw [teq_false (fun e => by cases e; simp at hn2)], fw.trans h⟩)))))
  | false =>
   refine WL.gd (j := 7) rfl rfl rfl (WL.bi rfl rfl (run_neq (c := false) (hn2.symm.trans neq_cast)) rfl (WL.pick rfl rfl rfl (WL.mv rfl rfl (WL.gd (j := 16) rfl rfl rfl (WL.fa rfl (fld66_0 _ _ _) rfl (WL.gd (j := 16) rfl rfl rfl (WL.ld rfl (lR (f := .int) iy3 ra_0 (h.at_ hlta (hAa.sub 0 1))) rfl (WL.gd (j := 16) rfl rfl rfl (WL.fa rfl (fld66_0 _ _ _) rfl (WL.gd (j := 16) rfl rfl rfl (WL.ld rfl (lR (f := .int) iy3 rb_0 (h.at_ hltb (hAb.sub 0 1))) rfl (?_))))))))))))
   cases hq3 : teq aa_0 ab_0 with
   | false =>
    refine WL.gd (j := 16) rfl rfl rfl (WL.binAny rfl rfl (neq3.guard ra_0 rb_0 _ _ _) (neq3.run' hq3 ra_0 rb_0 _) rfl ?_)
    refine WL.skip _ _ _ rfl (WL.nx (W.ct rfl ?_))
    exact W.sq (W.rg (WL.an rfl rfl (WL.nx (W.ret fun a ha => tR (pR rfl ha rfl ⟨by rw [teq_false (fun e => by cases e; exact teq_ne hq3 rfl)], fw.trans h⟩)))))
   | true =>
    refine WL.gd (j := 16) rfl rfl rfl (WL.binAny rfl rfl (neq3.guard ra_0 rb_0 _ _ _) (neq3.run' hq3 ra_0 rb_0 _) rfl (WL.pick rfl rfl rfl (WL.mv rfl rfl (WL.gd (j := 23) rfl rfl rfl (WL.fa rfl (fld66_1 _ _ _) rfl (WL.gd (j := 23) rfl rfl rfl (WL.ld rfl (lR (f := .str) iy9 ra_1 (h.at_ hlta (hAa.sub 1 1))) rfl (WL.gd (j := 23) rfl rfl rfl (WL.fa rfl (fld66_1 _ _ _) rfl (WL.gd (j := 23) rfl rfl rfl (WL.ld rfl (lR (f := .str) iy9 rb_1 (h.at_ hltb (hAb.sub 1 1))) rfl (?_))))))))))))
    cases hq4 : teq aa_1 ab_1 with
    | false =>
     refine WL.gd (j := 23) rfl rfl rfl (WL.binAny rfl rfl (neq9.guard ra_1 rb_1 _ _ _) (neq9.run' hq4 ra_1 rb_1 _) rfl ?_)
     refine WL.skip _ _ _ rfl (WL.nx (W.ct rfl ?_))
     exact W.sq (W.rg (WL.an rfl rfl (WL.nx (W.ret fun a ha => tR (pR rfl ha rfl ⟨by rw [teq_false (fun e => by cases e; exact teq_ne hq4 rfl)], fw.trans h⟩)))))
    | true =>
     refine WL.gd (j := 23) rfl rfl rfl (WL.binAny rfl rfl (neq9.guard ra_1 rb_1 _ _ _) (neq9.run' hq4 ra_1 rb_1 _) rfl (WL.pick rfl rfl rfl (WL.mv rfl rfl (WL.gd (j := 30) rfl rfl rfl (WL.fa rfl (fld66_2 _ _ _) rfl (WL.gd (j := 30) rfl rfl rfl (WL.ld rfl (lR (f := .str) iy9 ra_2 (h.at_ hlta (hAa.sub 2 1))) rfl (WL.gd (j := 30) rfl rfl rfl (WL.fa rfl (fld66_2 _ _ _) rfl (WL.gd (j := 30) rfl rfl rfl (WL.ld rfl (lR (f := .str) iy9 rb_2 (h.at_ hltb (hAb.sub 2 1))) rfl (?_))))))))))))
     cases hq5 : teq aa_2 ab_2 with
     | false =>
      refine WL.gd (j := 30) rfl rfl rfl (WL.binAny rfl rfl (neq9.guard ra_2 rb_2 _ _ _) (neq9.run' hq5 ra_2 rb_2 _) rfl ?_)
      refine WL.skip _ _ _ rfl (WL.nx (W.ct rfl ?_))
      exact W.sq (W.rg (WL.an rfl rfl (WL.nx (W.ret fun a ha => tR (pR rfl ha rfl ⟨by rw [teq_false (fun e => by cases e; exact teq_ne hq5 rfl)], fw.trans h⟩)))))
     | true =>
      refine WL.gd (j := 30) rfl rfl rfl (WL.binAny rfl rfl (neq9.guard ra_2 rb_2 _ _ _) (neq9.run' hq5 ra_2 rb_2 _) rfl (WL.pick rfl rfl rfl (WL.mv rfl rfl (WL.gd (j := 37) rfl rfl rfl (WL.fa rfl (fld66_3 _ _ _) rfl (WL.gd (j := 37) rfl rfl rfl (WL.ld rfl (lR (f := .int) iy3 ra_3 (h.at_ hlta (hAa.sub 3 1))) rfl (WL.gd (j := 37) rfl rfl rfl (WL.fa rfl (fld66_3 _ _ _) rfl (WL.gd (j := 37) rfl rfl rfl (WL.ld rfl (lR (f := .int) iy3 rb_3 (h.at_ hltb (hAb.sub 3 1))) rfl (?_))))))))))))
      cases hq6 : teq aa_3 ab_3 with
      | false =>
       refine WL.gd (j := 37) rfl rfl rfl (WL.binAny rfl rfl (neq3.guard ra_3 rb_3 _ _ _) (neq3.run' hq6 ra_3 rb_3 _) rfl ?_)
       refine WL.skip _ _ _ rfl (WL.nx (W.ct rfl ?_))
       exact W.sq (W.rg (WL.an rfl rfl (WL.nx (W.ret fun a ha => tR (pR rfl ha rfl ⟨by rw [teq_false (fun e => by cases e; exact teq_ne hq6 rfl)], fw.trans h⟩)))))
      | true =>
       refine WL.gd (j := 37) rfl rfl rfl (WL.binAny rfl rfl (neq3.guard ra_3 rb_3 _ _ _) (neq3.run' hq6 ra_3 rb_3 _) rfl (WL.pick rfl rfl rfl (WL.mv rfl rfl (WL.gd (j := 44) rfl rfl rfl (WL.fa rfl (fld66_4 _ _ _) rfl (WL.gd (j := 44) rfl rfl rfl (WL.ld rfl (lR (f := .st .atom) iy59 ra_4 (h.at_ hlta (hAa.sub 4 2))) rfl (WL.gd (j := 44) rfl rfl rfl (WL.fa rfl (fld66_4 _ _ _) rfl (WL.gd (j := 44) rfl rfl rfl (WL.ld rfl (lR (f := .st .atom) iy59 rb_4 (h.at_ hltb (hAb.sub 4 2))) rfl (?_))))))))))))
       cases hq7 : teq aa_4 ab_4 with
       | false =>
        refine WL.gd (j := 44) rfl rfl rfl (WL.binAny rfl rfl (neq59.guard ra_4 rb_4 _ _ _) (neq59.run' hq7 ra_4 rb_4 _) rfl ?_)
        refine WL.skip _ _ _ rfl (WL.nx (W.ct rfl ?_))
        exact W.sq (W.rg (WL.an rfl rfl (WL.nx (W.ret fun a ha => tR (pR rfl ha rfl ⟨by rw [teq_false (fun e => by cases e; exact teq_ne hq7 rfl)], fw.trans h⟩)))))
       | true =>
        refine WL.gd (j := 44) rfl rfl rfl (WL.binAny rfl rfl (neq59.guard ra_4 rb_4 _ _ _) (neq59.run' hq7 ra_4 rb_4 _) rfl (WL.pick rfl rfl rfl (WL.mv rfl rfl (WL.gd (j := 51) rfl rfl rfl (WL.fa rfl (fld66_5 _ _ _) rfl (WL.gd (j := 51) rfl rfl rfl (WL.ld rfl (lR (f := .int) iy3 ra_5 (h.at_ hlta (hAa.sub 6 1))) rfl (WL.gd (j := 51) rfl rfl rfl (WL.fa rfl (fld66_5 _ _ _) rfl (WL.gd (j := 51) rfl rfl rfl (WL.ld rfl (lR (f := .int) iy3 rb_5 (h.at_ hltb (hAb.sub 6 1))) rfl (?_))))))))))))
        cases hq8 : teq aa_5 ab_5 with
        | false =>
         refine WL.gd (j := 51) rfl rfl rfl (WL.binAny rfl rfl (neq3.guard ra_5 rb_5 _ _ _) (neq3.run' hq8 ra_5 rb_5 _) rfl ?_)
         refine WL.skip _ _ _ rfl (WL.nx (W.ct rfl ?_))
         exact W.sq (W.rg (WL.an rfl rfl (WL.nx (W.ret fun a ha => tR (pR rfl ha rfl ⟨by rw [teq_false (fun e => by cases e; exact teq_ne hq8 rfl)], fw.trans h⟩)))))
        | true =>
         refine WL.gd (j := 51) rfl rfl rfl (WL.binAny rfl rfl (neq3.guard ra_5 rb_5 _ _ _) (neq3.run' hq8 ra_5 rb_5 _) rfl (WL.pick rfl rfl rfl (WL.mv rfl rfl (WL.gd (j := 58) rfl rfl rfl (WL.fa rfl (fld66_6 _ _ _) rfl (WL.gd (j := 58) rfl rfl rfl (WL.ld rfl (lR (f := .st .test) iy61 ra_6 (h.at_ hlta (hAa.sub 7 2))) rfl (WL.gd (j := 58) rfl rfl rfl (WL.fa rfl (fld66_6 _ _ _) rfl (WL.gd (j := 58) rfl rfl rfl (WL.ld rfl (lR (f := .st .test) iy61 rb_6 (h.at_ hltb (hAb.sub 7 2))) rfl (?_))))))))))))
         cases hq9 : teq aa_6 ab_6 with
         | false =>
          refine WL.gd (j := 58) rfl rfl rfl (WL.binAny rfl rfl (neq61.guard ra_6 rb_6 _ _ _) (neq61.run' hq9 ra_6 rb_6 _) rfl ?_)
          refine WL.skip _ _ _ rfl (WL.nx (W.ct rfl ?_))
          exact W.sq (W.rg (WL.an rfl rfl (WL.nx (W.ret fun a ha => tR (pR rfl ha rfl ⟨by rw [teq_false (fun e => by cases e; exact teq_ne hq9 rfl)], fw.trans h⟩)))))
         | true =>
          refine WL.gd (j := 58) rfl rfl rfl (WL.binAny rfl rfl (neq61.guard ra_6 rb_6 _ _ _) (neq61.run' hq9 ra_6 rb_6 _) rfl (WL.pick rfl rfl rfl (WL.mv rfl rfl (WL.gd (j := 65) rfl rfl rfl (WL.fa rfl (fld66_7 _ _ _) rfl (WL.gd (j := 65) rfl rfl rfl (WL.ld rfl (lR (f := .st .type) iy63 ra_7 (h.at_ hlta (hAa.sub 9 5))) rfl (WL.gd (j := 65) rfl rfl rfl (WL.fa rfl (fld66_7 _ _ _) rfl (WL.gd (j := 65) rfl rfl rfl (WL.ld rfl (lR (f := .st .type) iy63 rb_7 (h.at_ hltb (hAb.sub 9 5))) rfl (?_))))))))))))
          cases hq10 : teq aa_7 ab_7 with
          | false =>
           refine WL.gd (j := 65) rfl rfl rfl (WL.binAny rfl rfl (neq63.guard ra_7 rb_7 _ _ _) (neq63.run' hq10 ra_7 rb_7 _) rfl ?_)
           refine WL.skip _ _ _ rfl (WL.nx (W.ct rfl ?_))
           exact W.sq (W.rg (WL.an rfl rfl (WL.nx (W.ret fun a ha => tR (pR rfl ha rfl ⟨by rw [teq_false (fun e => by cases e; exact teq_ne hq10 rfl)], fw.trans h⟩)))))
          | true =>
           refine WL.gd (j := 65) rfl rfl rfl (WL.binAny rfl rfl (neq63.guard ra_7 rb_7 _ _ _) (neq63.run' hq10 ra_7 rb_7 _) rfl (WL.pick rfl rfl rfl (WL.nx (W.cond_false rfl (W.skip fun a ha => tN ?_)))))
           refine W.run ha (W.weak [(2, ptr bxa), (3, ptr bxb)] ⟨rfl, rfl, trivial⟩ ?_)
           have hle8 : la8.length = lb8.length := Classical.byContradiction (of_decide_eq_false hn1)
           have hle9 : la9.length = lb9.length := Classical.byContradiction (of_decide_eq_false hn2)
           refine W.sq (W.sq (W.rg (WL.an rfl rfl (WL.nx ?_))))
           refine W.bk (W.loop (ι := Nat × World) (fun i => [(2, ptr bxa), (3, ptr bxb), (5, .int .i64 (i.1 : Int))]) (fun i w' => w' = i.2 ∧ i.1 ≤ la8.length ∧ F0 wb w' ∧ ∀ j, j < i.1 → la8[j]? = lb8[j]?) (fun i => la8.length - i.1)
            (0, w1) ⟨rfl, rfl, rfl, trivial⟩ ⟨rfl, Nat.zero_le _, h, fun j hj => absurd hj (Nat.not_lt_zero j)⟩ ?_)
           clear h
           rintro ⟨i11, _⟩ w1 ⟨rfl, hi, h, halli11⟩
           simp only at hi h halli11 ⊢
           refine W.sq (W.sq (W.rg (WL.mv rfl rfl (WL.fa rfl (fld66_8 _ _ _) rfl (WL.ld rfl (load_list hva8 iy44 ra_8 (h.at_ hlta (hAa.sub 14 1))) rfl (WL.len rfl (lS Tryz.underlying44) rfl (WL.bi rfl rfl (run_lss (c := decide (i11 < la8.length)) (decide_eq_decide.2 Int.ofNat_lt.symm)) rfl (WL.nx (W.cond rfl (fun ht => W.skip fun a ha => tN ?_) (fun hf => W.exit fun a ha => tE (tE (eH (tN ?_)))))))))))))
           · have hil : i11 < la8.length := of_decide_eq_true ht
             obtain ⟨txi11, htxi11⟩ : ∃ t, la8[i11]? = some t := ⟨_, List.getElem?_eq_getElem hil⟩
             obtain ⟨tyi11, htyi11⟩ : ∃ t, lb8[i11]? = some t := ⟨_, List.getElem?_eq_getElem (hle8 ▸ hil)⟩
             have hwxi11 := T.wt_mem (List.mem_of_getElem? htxi11)
             obtain ⟨bxi11, oxi11, dxi11, hixxi11, _, hltxi11, hAxi11, rxi11⟩ := hgeta8 i11 txi11 htxi11
             obtain ⟨byi11, oyi11, dyi11, hixyi11, _, hltyi11, hAyi11, ryi11⟩ := hgetb8 i11 tyi11 htyi11
             refine W.run ha (W.sq (W.bk (W.sq (W.quiet (F0 wb) mixed (by kernel_rfl) h.drawn ?_))))
             clear h
             refine QL.fa rfl (fun w => fld66_8 w _ _) rfl (QL.load rfl (fun w h => load_list hva8 iy44 ra_8 (h.at_ hlta (hAa.sub 14 1))) rfl (QL.move rfl rfl (QL.ix rfl rfl (fun w => hixxi11 w Tryz.underlying44 iy9 rfl) rfl (QL.load rfl (fun w h => lR (f := .str) iy9 rxi11 (h.at_ hltxi11 hAxi11)) rfl (QL.fa rfl (fun w => fld66_8 w _ _) rfl (QL.load rfl (fun w h => load_list hvb8 iy44 rb_8 (h.at_ hltb (hAb.sub 14 1))) rfl (QL.move rfl rfl (QL.ix rfl rfl (fun w => hixyi11 w Tryz.underlying44 iy9 rfl) rfl (QL.load rfl (fun w h => lR (f := .str) iy9 ryi11 (h.at_ hltyi11 hAyi11)) rfl (?_))))))))))
             cases hq12 : teq txi11 tyi11 with
             | false =>
              refine QL.binAny rfl rfl (neq9.guard rxi11 ryi11 _ _) (neq9.run' hq12 rxi11 ryi11) rfl ?_
              refine QL.skip _ _ _ rfl (QL.next fun w1 h => W.ct rfl ?_)
              exact W.sq (W.rg (WL.an rfl rfl (WL.nx (W.ret fun a ha => bR (tR (tR (bR (tR (pR rfl ha rfl ⟨by rw [teq_false (fun e => by cases e; exact absurd (Option.some.inj (htxi11.symm.trans htyi11)) (teq_ne hq12))], fw.trans h⟩)))))))))
             | true =>
              refine QL.binAny rfl rfl (neq9.guard rxi11 ryi11 _ _) (neq9.run' hq12 rxi11 ryi11) rfl (QL.next fun w1 h => W.cond_false rfl (W.skip fun a ha => bN (tN ?_)))
              refine W.run ha (W.rg (WL.mv rfl rfl (WL.bi rfl rfl rfl rfl (WL.an rfl rfl (WL.nil fun a ha => tN ?_)))))
              exact ⟨(i11 + 1, w1), ha.weak ⟨rfl, rfl, congrArg some (inc_i64 (lt_len hil hmla8)), trivial⟩, ⟨rfl, hil, h, step_eq halli11 htxi11 htyi11 (teq_eq hq12)⟩, Nat.sub_lt_sub_left hil (Nat.lt_succ_self i11)⟩
           · have hend : i11 = la8.length := Nat.le_antisymm hi (Nat.le_of_not_lt (of_decide_eq_false hf))
             have hls8 := teq_eq (teq_all hle8 hend halli11)
             refine W.run ha (W.weak [(2, ptr bxa), (3, ptr bxb)] ⟨rfl, rfl, trivial⟩ ?_)
             refine W.sq (W.sq (W.rg (WL.an rfl rfl (WL.nx ?_))))
             refine W.bk (W.loop (ι := Nat × World) (fun i => [(2, ptr bxa), (3, ptr bxb), (6, .int .i64 (i.1 : Int))]) (fun i w' => w' = i.2 ∧ i.1 ≤ la9.length ∧ F0 wb w' ∧ ∀ j, j < i.1 → la9[j]? = lb9[j]?) (fun i => la9.length - i.1)
              (0, w1) ⟨rfl, rfl, rfl, trivial⟩ ⟨rfl, Nat.zero_le _, h, fun j hj => absurd hj (Nat.not_lt_zero j)⟩ ?_)
             clear h
             rintro ⟨i13, _⟩ w1 ⟨rfl, hi, h, halli13⟩
             simp only at hi h halli13 ⊢
             refine W.sq (W.sq (W.rg (WL.mv rfl rfl (WL.fa rfl (fld66_9 _ _ _) rfl (WL.ld rfl (load_list hva9 iy64 ra_9 (h.at_ hlta (hAa.sub 15 1))) rfl (WL.len rfl (lS Tryz.underlying64) rfl (WL.bi rfl rfl (run_lss (c := decide (i13 < la9.length)) (decide_eq_decide.2 Int.ofNat_lt.symm)) rfl (WL.nx (W.cond rfl (fun ht => W.skip fun a ha => tN ?_) (fun hf => W.exit fun a ha => tE (tE (eH (tN ?_)))))))))))))
             · have hil : i13 < la9.length := of_decide_eq_true ht
               obtain ⟨txi13, htxi13⟩ : ∃ t, la9[i13]? = some t := ⟨_, List.getElem?_eq_getElem hil⟩
               obtain ⟨tyi13, htyi13⟩ : ∃ t, lb9[i13]? = some t := ⟨_, List.getElem?_eq_getElem (hle9 ▸ hil)⟩
               have hwxi13 := T.wt_mem (List.mem_of_getElem? htxi13)
               obtain ⟨bxi13, oxi13, dxi13, hixxi13, _, hltxi13, hAxi13, rxi13⟩ := hgeta9 i13 txi13 htxi13
               obtain ⟨byi13, oyi13, dyi13, hixyi13, _, hltyi13, hAyi13, ryi13⟩ := hgetb9 i13 tyi13 htyi13
               refine W.run ha (W.sq (W.bk (W.sq (W.quiet (F0 wb) mixed (by kernel_rfl) h.drawn ?_))))
               clear h
               refine QL.fa rfl (fun w => fld66_9 w _ _) rfl (QL.load rfl (fun w h => load_list hva9 iy64 ra_9 (h.at_ hlta (hAa.sub 15 1))) rfl (QL.move rfl rfl (QL.ix rfl rfl (fun w => hixxi13 w Tryz.underlying64 iy66 rfl) rfl (QL.load rfl (fun w h => lR (f := .st .expr) iy66 rxi13 (h.at_ hltxi13 hAxi13)) rfl (QL.fa rfl (fun w => fld66_9 w _ _) rfl (QL.load rfl (fun w h => load_list hvb9 iy64 rb_9 (h.at_ hltb (hAb.sub 15 1))) rfl (QL.move rfl rfl (QL.ix rfl rfl (fun w => hixyi13 w Tryz.underlying64 iy66 rfl) rfl (QL.load rfl (fun w h => lR (f := .st .expr) iy66 ryi13 (h.at_ hltyi13 hAyi13)) rfl (?_))))))))))
               cases hq14 : teq txi13 tyi13 with
               | false =>
                refine QL.call Tryz.call94 rfl rfl (SEnc.quiet (IH _ (Nat.lt_trans (elem_lt hwxi13) (agg_lt (by simp) hN)) _ _ (Nat.le_refl _)) hq14 rxi13 ryi13) (QL.not rfl rfl ?_)
                refine QL.skip _ _ _ rfl (QL.next fun w1 h => W.ct rfl ?_)
                exact W.sq (W.rg (WL.an rfl rfl (WL.nx (W.ret fun a ha => bR (tR (tR (bR (tR (pR rfl ha rfl ⟨by rw [teq_false (fun e => by cases e; exact absurd (Option.some.inj (htxi13.symm.trans htyi13)) (teq_ne hq14))], fw.trans h⟩)))))))))
               | true =>
                refine QL.call Tryz.call94 rfl rfl (SEnc.quiet (IH _ (Nat.lt_trans (elem_lt hwxi13) (agg_lt (by simp) hN)) _ _ (Nat.le_refl _)) hq14 rxi13 ryi13) (QL.not rfl rfl (QL.next fun w1 h => W.cond_false rfl (W.skip fun a ha => bN (tN ?_))))
                refine W.run ha (W.rg (WL.mv rfl rfl (WL.bi rfl rfl rfl rfl (WL.an rfl rfl (WL.nil fun a ha => tN ?_)))))
                exact ⟨(i13 + 1, w1), ha.weak ⟨rfl, rfl, congrArg some (inc_i64 (lt_len hil hmla9)), trivial⟩, ⟨rfl, hil, h, step_eq halli13 htxi13 htyi13 (teq_eq hq14)⟩, Nat.sub_lt_sub_left hil (Nat.lt_succ_self i13)⟩
             · have hend : i13 = la9.length := Nat.le_antisymm hi (Nat.le_of_not_lt (of_decide_eq_false hf))
               have hls9 := teq_eq (teq_all hle9 hend halli13)
               refine W.run ha (W.weak [(2, ptr bxa), (3, ptr bxb)] ⟨rfl, rfl, trivial⟩ ?_)
               exact W.sq (W.rg (WL.an rfl rfl (WL.nx (W.ret fun a ha => pR rfl ha rfl ⟨by rw [teq_true (by rw [teq_eq hq3, teq_eq hq4, teq_eq hq5, teq_eq hq6, teq_eq hq7, teq_eq hq8, teq_eq hq9, teq_eq hq10, hls8, hls9])], fw.trans h⟩))))
theorem sX (t u : T) : SEnc 94 (.st .expr) t u := s94 t.wt t u (Nat.le_refl _)
theorem s90' {t u : T} : SEnc 90 (.list (.st .expr)) t u := s90 (fun _ _ _ => sX _ _)
end Go.Sx
namespace Go.Sx
open Go.Proofs
theorem s92 {t u : T} (ih : ∀ t' u', t'.wt < t.wt → SEnc 93 (.list (.st .instr)) t' u') : SEnc 92 (.list (.st .param)) t u := by
 intro w S cs ds hr hk
 obtain ⟨la, rfl⟩ := hr.is_list
 obtain ⟨lb, rfl⟩ := hk.is_list
 obtain ⟨ga, capa, hva, hmla, hgeta⟩ := list_at hr
 obtain ⟨gb, capb, hvb, hmlb, hgetb⟩ := list_at hk
 rw [hva, hvb]
 refine cW 82 Tryz.func92 rfl rfl rfl ?_
 refine W.sq (W.rg (WL.an rfl rfl (WL.nx ?_)))
 refine W.sq (W.sq (W.rg (WL.mv rfl rfl (WL.len rfl (lS Tryz.underlying68) rfl (WL.mv rfl rfl (WL.len rfl (lS Tryz.underlying68) rfl (WL.bi rfl rfl (run_neq (c := decide (la.length ≠ lb.length)) neq_cast) rfl (WL.nx (W.cond rfl (fun ht => ?_) (fun hf => W.skip fun a ha => tN ?_))))))))))
 · have hne : la.length ≠ lb.length := of_decide_eq_true ht
   refine W.sq (W.rg (WL.an rfl rfl (WL.nx (W.ret fun a ha => tR (pR rfl ha rfl ⟨by rw [teq_len hne], Fr.refl _ _⟩)))))
 have hle : la.length = lb.length := Classical.byContradiction (of_decide_eq_false hf)
 refine W.run ha (W.sq (W.sq (W.rg (WL.an rfl rfl (WL.nx ?_)))))
 refine W.bk (W.loop (ι := Nat × World) (fun i => [(0, .slice ga la.length capa), (1, .slice gb lb.length capb), (5, .int .i64 (i.1 : Int))]) (fun i w' => w' = i.2 ∧ i.1 ≤ la.length ∧ F0 w w' ∧ ∀ j, j < i.1 → la[j]? = lb[j]?) (fun i => la.length - i.1)
  (0, w) ⟨rfl, rfl, rfl, trivial⟩ ⟨rfl, Nat.zero_le _, Fr.refl _ _, fun j hj => absurd hj (Nat.not_lt_zero j)⟩ ?_)
 rintro ⟨i, _⟩ w1 ⟨rfl, hi, h, hall⟩
 simp only at hi h hall ⊢
 refine W.sq (W.sq (W.rg (WL.mv rfl rfl (WL.mv rfl rfl (WL.len rfl (lS Tryz.underlying68) rfl (WL.bi rfl rfl (run_lss (c := decide (i < la.length)) (decide_eq_decide.2 Int.ofNat_lt.symm)) rfl (WL.nx (W.cond rfl (fun ht => W.skip fun a ha => tN ?_) (fun hf => W.exit fun a ha => tE (tE (eH (tN ?_))))))))))))
 · have hil : i < la.length := of_decide_eq_true ht
   obtain ⟨ta, hta⟩ : ∃ t, la[i]? = some t := ⟨_, List.getElem?_eq_getElem hil⟩
   obtain ⟨tb, htb⟩ : ∃ t, lb[i]? = some t := ⟨_, List.getElem?_eq_getElem (hle ▸ hil)⟩
   have hwa := T.wt_mem (List.mem_of_getElem? hta)
   obtain ⟨ba, oa, da, hixa, _, hlta, hAa, ra⟩ := hgeta i ta hta
   obtain ⟨bb, ob, db, hixb, _, hltb, hAb, rb⟩ := hgetb i tb htb
   obtain ⟨fla, rfl, hlena, hFa⟩ := ra.st_inv
   obtain ⟨aa_0, fla, rfl, ra_0, hFa⟩ := hFa.cons_inv
   obtain ⟨aa_1, fla, rfl, ra_1, hFa⟩ := hFa.cons_inv
   obtain ⟨aa_2, fla, rfl, ra_2, hFa⟩ := hFa.cons_inv
   obtain ⟨aa_3, fla, rfl, ra_3, hFa⟩ := hFa.cons_inv
   obtain ⟨aa_4, fla, rfl, ra_4, hFa⟩ := hFa.cons_inv
   obtain rfl := hFa.nil_inv
   simp only [Nat.zero_add, Nat.reduceAdd, Ty.size, SN.size] at ra_0 ra_1 ra_2 ra_3 ra_4
   obtain ⟨flb, rfl, hlenb, hFb⟩ := rb.st_inv
   obtain ⟨ab_0, flb, rfl, rb_0, hFb⟩ := hFb.cons_inv
   obtain ⟨ab_1, flb, rfl, rb_1, hFb⟩ := hFb.cons_inv
   obtain ⟨ab_2, flb, rfl, rb_2, hFb⟩ := hFb.cons_inv
   obtain ⟨ab_3, flb, rfl, rb_3, hFb⟩ := hFb.cons_inv
   obtain ⟨ab_4, flb, rfl, rb_4, hFb⟩ := hFb.cons_inv
   obtain rfl := hFb.nil_inv
   simp only [Nat.zero_add, Nat.reduceAdd, Ty.size, SN.size] at rb_0 rb_1 rb_2 rb_3 rb_4
   refine W.run ha (W.sq (W.bk (W.sq (W.quiet (F0 w) mixed (by kernel_rfl) h.drawn ?_))))
   clear h
   refine QL.move rfl rfl (QL.move rfl rfl (QL.ix rfl rfl (fun w => hixa w Tryz.underlying68 iy216 rfl) rfl (QL.fa rfl (fun w => fld216_0 w _ _) rfl (QL.load rfl (fun w h => lR (f := .str) iy9 ra_0 (h.at_ hlta (hAa.sub 0 1))) rfl (QL.move rfl rfl (QL.move rfl rfl (QL.ix rfl rfl (fun w => hixb w Tryz.underlying68 iy216 rfl) rfl (QL.fa rfl (fun w => fld216_0 w _ _) rfl (QL.load rfl (fun w h => lR (f := .str) iy9 rb_0 (h.at_ hltb (hAb.sub 0 1))) rfl (?_))))))))))
   cases hq1 : teq aa_0 ab_0 with
   | false =>
    refine QL.binAny rfl rfl (neq9.guard ra_0 rb_0 _ _) (neq9.run' hq1 ra_0 rb_0) rfl ?_
    refine QL.skip _ _ _ rfl (QL.next fun w1 h => W.ct rfl ?_)
    exact W.sq (W.rg (WL.an rfl rfl (WL.nx (W.ret fun a ha => bR (tR (tR (bR (tR (pR rfl ha rfl ⟨by rw [teq_at hta htb (fun e => by cases e; exact teq_ne hq1 rfl)], h⟩)))))))))
   | true =>
    refine QL.binAny rfl rfl (neq9.guard ra_0 rb_0 _ _) (neq9.run' hq1 ra_0 rb_0) rfl (QL.move rfl rfl (QL.gd (j := 11) rfl rfl rfl (QL.move rfl rfl (QL.gd (j := 11) rfl rfl rfl (QL.move rfl rfl (QL.gd (j := 11) rfl rfl rfl (QL.ix rfl rfl (fun w => hixa w Tryz.underlying68 iy216 rfl) rfl (QL.gd (j := 11) rfl rfl rfl (QL.fa rfl (fun w => fld216_1 w _ _) rfl (QL.gd (j := 11) rfl rfl rfl (QL.load rfl (fun w h => lR (f := .st .type) iy63 ra_1 (h.at_ hlta (hAa.sub 1 5))) rfl (QL.gd (j := 11) rfl rfl rfl (QL.move rfl rfl (QL.gd (j := 11) rfl rfl rfl (QL.move rfl rfl (QL.gd (j := 11) rfl rfl rfl (QL.ix rfl rfl (fun w => hixb w Tryz.underlying68 iy216 rfl) rfl (QL.gd (j := 11) rfl rfl rfl (QL.fa rfl (fun w => fld216_1 w _ _) rfl (QL.gd (j := 11) rfl rfl rfl (QL.load rfl (fun w h => lR (f := .st .type) iy63 rb_1 (h.at_ hltb (hAb.sub 1 5))) rfl (?_))))))))))))))))))))))
    cases hq2 : teq aa_1 ab_1 with
    | false =>
     refine QL.gd (j := 11) rfl rfl rfl (QL.binAny rfl rfl (neq63.guard ra_1 rb_1 _ _) (neq63.run' hq2 ra_1 rb_1) rfl ?_)
     refine QL.skip _ _ _ rfl (QL.next fun w1 h => W.ct rfl ?_)
     exact W.sq (W.rg (WL.an rfl rfl (WL.nx (W.ret fun a ha => bR (tR (tR (bR (tR (pR rfl ha rfl ⟨by rw [teq_at hta htb (fun e => by cases e; exact teq_ne hq2 rfl)], h⟩)))))))))
    | true =>
     refine QL.gd (j := 11) rfl rfl rfl (QL.binAny rfl rfl (neq63.guard ra_1 rb_1 _ _) (neq63.run' hq2 ra_1 rb_1) rfl (QL.pick rfl rfl rfl (QL.move rfl rfl (QL.gd (j := 24) rfl rfl rfl (QL.move rfl rfl (QL.gd (j := 24) rfl rfl rfl (QL.move rfl rfl (QL.gd (j := 24) rfl rfl rfl (QL.ix rfl rfl (fun w => hixa w Tryz.underlying68 iy216 rfl) rfl (QL.gd (j := 24) rfl rfl rfl (QL.fa rfl (fun w => fld216_2 w _ _) rfl (QL.gd (j := 24) rfl rfl rfl (QL.load rfl (fun w h => lR (f := .bool) iy4 ra_2 (h.at_ hlta (hAa.sub 6 1))) rfl (QL.gd (j := 24) rfl rfl rfl (QL.move rfl rfl (QL.gd (j := 24) rfl rfl rfl (QL.move rfl rfl (QL.gd (j := 24) rfl rfl rfl (QL.ix rfl rfl (fun w => hixb w Tryz.underlying68 iy216 rfl) rfl (QL.gd (j := 24) rfl rfl rfl (QL.fa rfl (fun w => fld216_2 w _ _) rfl (QL.gd (j := 24) rfl rfl rfl (QL.load rfl (fun w h => lR (f := .bool) iy4 rb_2 (h.at_ hltb (hAb.sub 6 1))) rfl (?_))))))))))))))))))))))))
     cases hq3 : teq aa_2 ab_2 with
     | false =>
      refine QL.gd (j := 24) rfl rfl rfl (QL.binAny rfl rfl (neq4.guard ra_2 rb_2 _ _) (neq4.run' hq3 ra_2 rb_2) rfl ?_)
      refine QL.skip _ _ _ rfl (QL.next fun w1 h => W.ct rfl ?_)
      exact W.sq (W.rg (WL.an rfl rfl (WL.nx (W.ret fun a ha => bR (tR (tR (bR (tR (pR rfl ha rfl ⟨by rw [teq_at hta htb (fun e => by cases e; exact teq_ne hq3 rfl)], h⟩)))))))))
     | true =>
      refine QL.gd (j := 24) rfl rfl rfl (QL.binAny rfl rfl (neq4.guard ra_2 rb_2 _ _) (neq4.run' hq3 ra_2 rb_2) rfl (QL.pick rfl rfl rfl (QL.move rfl rfl (QL.gd (j := 37) rfl rfl rfl (QL.move rfl rfl (QL.gd (j := 37) rfl rfl rfl (QL.move rfl rfl (QL.gd (j := 37) rfl rfl rfl (QL.ix rfl rfl (fun w => hixa w Tryz.underlying68 iy216 rfl) rfl (QL.gd (j := 37) rfl rfl rfl (QL.fa rfl (fun w => fld216_3 w _ _) rfl (QL.gd (j := 37) rfl rfl rfl (QL.load rfl (fun w h => lR (f := .st .expr) iy66 ra_3 (h.at_ hlta (hAa.sub 7 16))) rfl (QL.gd (j := 37) rfl rfl rfl (QL.move rfl rfl (QL.gd (j := 37) rfl rfl rfl (QL.move rfl rfl (QL.gd (j := 37) rfl rfl rfl (QL.ix rfl rfl (fun w => hixb w Tryz.underlying68 iy216 rfl) rfl (QL.gd (j := 37) rfl rfl rfl (QL.fa rfl (fun w => fld216_3 w _ _) rfl (QL.gd (j := 37) rfl rfl rfl (QL.load rfl (fun w h => lR (f := .st .expr) iy66 rb_3 (h.at_ hltb (hAb.sub 7 16))) rfl (?_))))))))))))))))))))))))
      cases hq4 : teq aa_3 ab_3 with
      | false =>
       refine QL.gd (j := 37) rfl rfl rfl (QL.call Tryz.call94 rfl rfl (SEnc.quiet (sX _ _) hq4 ra_3 rb_3) (QL.gd (j := 37) rfl rfl rfl (QL.not rfl rfl ?_)))
       refine QL.skip _ _ _ rfl (QL.next fun w1 h => W.ct rfl ?_)
       exact W.sq (W.rg (WL.an rfl rfl (WL.nx (W.ret fun a ha => bR (tR (tR (bR (tR (pR rfl ha rfl ⟨by rw [teq_at hta htb (fun e => by cases e; exact teq_ne hq4 rfl)], h⟩)))))))))
      | true =>
       refine QL.gd (j := 37) rfl rfl rfl (QL.call Tryz.call94 rfl rfl (SEnc.quiet (sX _ _) hq4 ra_3 rb_3) (QL.gd (j := 37) rfl rfl rfl (QL.not rfl rfl (QL.pick rfl rfl rfl (QL.move rfl rfl (QL.gd (j := 51) rfl rfl rfl (QL.move rfl rfl (QL.gd (j := 51) rfl rfl rfl (QL.move rfl rfl (QL.gd (j := 51) rfl rfl rfl (QL.ix rfl rfl (fun w => hixa w Tryz.underlying68 iy216 rfl) rfl (QL.gd (j := 51) rfl rfl rfl (QL.fa rfl (fun w => fld216_4 w _ _) rfl (QL.gd (j := 51) rfl rfl rfl (QL.load rfl (fun w h => lR (f := .list (.st .instr)) iy56 ra_4 (h.at_ hlta (hAa.sub 23 1))) rfl (QL.gd (j := 51) rfl rfl rfl (QL.move rfl rfl (QL.gd (j := 51) rfl rfl rfl (QL.move rfl rfl (QL.gd (j := 51) rfl rfl rfl (QL.ix rfl rfl (fun w => hixb w Tryz.underlying68 iy216 rfl) rfl (QL.gd (j := 51) rfl rfl rfl (QL.fa rfl (fun w => fld216_4 w _ _) rfl (QL.gd (j := 51) rfl rfl rfl (QL.load rfl (fun w h => lR (f := .list (.st .instr)) iy56 rb_4 (h.at_ hltb (hAb.sub 23 1))) rfl (?_))))))))))))))))))))))))))
       cases hq5 : teq aa_4 ab_4 with
       | false =>
        refine QL.gd (j := 51) rfl rfl rfl (QL.call Tryz.call93 rfl rfl (SEnc.quiet (ih _ _ (fld_lt (by simp) hwa (Nat.le_refl _))) hq5 ra_4 rb_4) (QL.gd (j := 51) rfl rfl rfl (QL.not rfl rfl ?_)))
        refine QL.skip _ _ _ rfl (QL.next fun w1 h => W.ct rfl ?_)
        exact W.sq (W.rg (WL.an rfl rfl (WL.nx (W.ret fun a ha => bR (tR (tR (bR (tR (pR rfl ha rfl ⟨by rw [teq_at hta htb (fun e => by cases e; exact teq_ne hq5 rfl)], h⟩)))))))))
       | true =>
        refine QL.gd (j := 51) rfl rfl rfl (QL.call Tryz.call93 rfl rfl (SEnc.quiet (ih _ _ (fld_lt (by simp) hwa (Nat.le_refl _))) hq5 ra_4 rb_4) (QL.gd (j := 51) rfl rfl rfl (QL.not rfl rfl (QL.pick rfl rfl rfl (QL.next fun w1 h => W.cond_false rfl (W.skip fun a ha => bN (tN ?_)))))))
        refine W.run ha (W.rg (WL.mv rfl rfl (WL.bi rfl rfl rfl rfl (WL.an rfl rfl (WL.nil fun a ha => tN ?_)))))
        exact ⟨(i + 1, w1), ha.weak ⟨rfl, rfl, congrArg some (inc_i64 (lt_len hil hmla)), trivial⟩, ⟨rfl, hil, h, step_eq hall hta htb (by rw [teq_eq hq1, teq_eq hq2, teq_eq hq3, teq_eq hq4, teq_eq hq5])⟩, Nat.sub_lt_sub_left hil (Nat.lt_succ_self i)⟩
 · have hend : i = la.length := Nat.le_antisymm hi (Nat.le_of_not_lt (of_decide_eq_false hf))
   exact W.run ha (W.sq (W.rg (WL.an rfl rfl (WL.nx (W.ret fun a ha => pR rfl ha rfl ⟨by rw [teq_all hle hend hall], h⟩)))))
theorem s149 {t u : T} (ih : ∀ t' u', t'.wt < t.wt → SEnc 93 (.list (.st .instr)) t' u') : SEnc 149 (.list (.st .ctch)) t u := by
 intro w S cs ds hr hk
 obtain ⟨la, rfl⟩ := hr.is_list
 obtain ⟨lb, rfl⟩ := hk.is_list
 obtain ⟨ga, capa, hva, hmla, hgeta⟩ := list_at hr
 obtain ⟨gb, capb, hvb, hmlb, hgetb⟩ := list_at hk
 rw [hva, hvb]
 refine cW 43 Tryz.func149 rfl rfl rfl ?_
 refine W.sq (W.rg (WL.an rfl rfl (WL.nx ?_)))
 refine W.sq (W.sq (W.rg (WL.mv rfl rfl (WL.len rfl (lS Tryz.underlying70) rfl (WL.mv rfl rfl (WL.len rfl (lS Tryz.underlying70) rfl (WL.bi rfl rfl (run_neq (c := decide (la.length ≠ lb.length)) neq_cast) rfl (WL.nx (W.cond rfl (fun ht => ?_) (fun hf => W.skip fun a ha => tN ?_))))))))))
 · have hne : la.length ≠ lb.length := of_decide_eq_true ht
   refine W.sq (W.rg (WL.an rfl rfl (WL.nx (W.ret fun a ha => tR (pR rfl ha rfl ⟨by rw [teq_len hne], Fr.refl _ _⟩)))))
 have hle : la.length = lb.length := Classical.byContradiction (of_decide_eq_false hf)
 refine W.run ha (W.sq (W.sq (W.rg (WL.an rfl rfl (WL.nx ?_)))))
 refine W.bk (W.loop (ι := Nat × World) (fun i => [(0, .slice ga la.length capa), (1, .slice gb lb.length capb), (5, .int .i64 (i.1 : Int))]) (fun i w' => w' = i.2 ∧ i.1 ≤ la.length ∧ F0 w w' ∧ ∀ j, j < i.1 → la[j]? = lb[j]?) (fun i => la.length - i.1)
  (0, w) ⟨rfl, rfl, rfl, trivial⟩ ⟨rfl, Nat.zero_le _, Fr.refl _ _, fun j hj => absurd hj (Nat.not_lt_zero j)⟩ ?_)
 rintro ⟨i, _⟩ w1 ⟨rfl, hi, h, hall⟩
 simp only at hi h hall ⊢
 refine W.sq (W.sq (W.rg (WL.mv rfl rfl (WL.mv rfl rfl (WL.len rfl (lS Tryz.underlying70) rfl (WL.bi rfl rfl (run_lss (c := decide (i < la.length)) (decide_eq_decide.2 Int.ofNat_lt.symm)) rfl (WL.nx (W.cond rfl (fun ht => W.skip fun a ha => tN ?_) (fun hf => W.exit fun a ha => tE (tE (eH (tN ?_))))))))))))
 · have hil : i < la.length := of_decide_eq_true ht
   obtain ⟨ta, hta⟩ : ∃ t, la[i]? = some t := ⟨_, List.getElem?_eq_getElem hil⟩
   obtain ⟨tb, htb⟩ : ∃ t, lb[i]? = some t := ⟨_, List.getElem?_eq_getElem (hle ▸ hil)⟩
   have hwa := T.wt_mem (List.mem_of_getElem? hta)
   obtain ⟨ba, oa, da, hixa, _, hlta, hAa, ra⟩ := hgeta i ta hta
   obtain ⟨bb, ob, db, hixb, _, hltb, hAb, rb⟩ := hgetb i tb htb
   obtain ⟨fla, rfl, hlena, hFa⟩ := ra.st_inv
   obtain ⟨aa_0, fla, rfl, ra_0, hFa⟩ := hFa.cons_inv
   obtain ⟨aa_1, fla, rfl, ra_1, hFa⟩ := hFa.cons_inv
   obtain rfl := hFa.nil_inv
   simp only [Nat.zero_add, Ty.size] at ra_0 ra_1
   obtain ⟨flb, rfl, hlenb, hFb⟩ := rb.st_inv
   obtain ⟨ab_0, flb, rfl, rb_0, hFb⟩ := hFb.cons_inv
   obtain ⟨ab_1, flb, rfl, rb_1, hFb⟩ := hFb.cons_inv
   obtain rfl := hFb.nil_inv
   simp only [Nat.zero_add, Ty.size] at rb_0 rb_1
   refine W.run ha (W.sq (W.bk (W.sq (W.quiet (F0 w) mixed (by kernel_rfl) h.drawn ?_))))
   clear h
   refine QL.move rfl rfl (QL.move rfl rfl (QL.ix rfl rfl (fun w => hixa w Tryz.underlying70 iy294 rfl) rfl (QL.fa rfl (fun w => fld294_0 w _ _) rfl (QL.load rfl (fun w h => lR (f := .list (.int)) iy262 ra_0 (h.at_ hlta (hAa.sub 0 1))) rfl (QL.move rfl rfl (QL.move rfl rfl (QL.ix rfl rfl (fun w => hixb w Tryz.underlying70 iy294 rfl) rfl (QL.fa rfl (fun w => fld294_0 w _ _) rfl (QL.load rfl (fun w h => lR (f := .list (.int)) iy262 rb_0 (h.at_ hltb (hAb.sub 0 1))) rfl (?_))))))))))
   cases hq6 : teq aa_0 ab_0 with
   | false =>
    refine QL.call Tryz.call204 rfl rfl (SEnc.quiet s204 hq6 ra_0 rb_0) (QL.not rfl rfl ?_)
    refine QL.skip _ _ _ rfl (QL.next fun w1 h => W.ct rfl ?_)
    exact W.sq (W.rg (WL.an rfl rfl (WL.nx (W.ret fun a ha => bR (tR (tR (bR (tR (pR rfl ha rfl ⟨by rw [teq_at hta htb (fun e => by cases e; exact teq_ne hq6 rfl)], h⟩)))))))))
   | true =>
    refine QL.call Tryz.call204 rfl rfl (SEnc.quiet s204 hq6 ra_0 rb_0) (QL.not rfl rfl (QL.move rfl rfl (QL.gd (j := 12) rfl rfl rfl (QL.move rfl rfl (QL.gd (j := 12) rfl rfl rfl (QL.move rfl rfl (QL.gd (j := 12) rfl rfl rfl (QL.ix rfl rfl (fun w => hixa w Tryz.underlying70 iy294 rfl) rfl (QL.gd (j := 12) rfl rfl rfl (QL.fa rfl (fun w => fld294_1 w _ _) rfl (QL.gd (j := 12) rfl rfl rfl (QL.load rfl (fun w h => lR (f := .list (.st .instr)) iy56 ra_1 (h.at_ hlta (hAa.sub 1 1))) rfl (QL.gd (j := 12) rfl rfl rfl (QL.move rfl rfl (QL.gd (j := 12) rfl rfl rfl (QL.move rfl rfl (QL.gd (j := 12) rfl rfl rfl (QL.ix rfl rfl (fun w => hixb w Tryz.underlying70 iy294 rfl) rfl (QL.gd (j := 12) rfl rfl rfl (QL.fa rfl (fun w => fld294_1 w _ _) rfl (QL.gd (j := 12) rfl rfl rfl (QL.load rfl (fun w h => lR (f := .list (.st .instr)) iy56 rb_1 (h.at_ hltb (hAb.sub 1 1))) rfl (?_)))))))))))))))))))))))
    cases hq7 : teq aa_1 ab_1 with
    | false =>
     refine QL.gd (j := 12) rfl rfl rfl (QL.call Tryz.call93 rfl rfl (SEnc.quiet (ih _ _ (fld_lt (by simp) hwa (Nat.le_refl _))) hq7 ra_1 rb_1) (QL.gd (j := 12) rfl rfl rfl (QL.not rfl rfl ?_)))
     refine QL.skip _ _ _ rfl (QL.next fun w1 h => W.ct rfl ?_)
     exact W.sq (W.rg (WL.an rfl rfl (WL.nx (W.ret fun a ha => bR (tR (tR (bR (tR (pR rfl ha rfl ⟨by rw [teq_at hta htb (fun e => by cases e; exact teq_ne hq7 rfl)], h⟩)))))))))
    | true =>
     refine QL.gd (j := 12) rfl rfl rfl (QL.call Tryz.call93 rfl rfl (SEnc.quiet (ih _ _ (fld_lt (by simp) hwa (Nat.le_refl _))) hq7 ra_1 rb_1) (QL.gd (j := 12) rfl rfl rfl (QL.not rfl rfl (QL.pick rfl rfl rfl (QL.next fun w1 h => W.cond_false rfl (W.skip fun a ha => bN (tN ?_)))))))
     refine W.run ha (W.rg (WL.mv rfl rfl (WL.bi rfl rfl rfl rfl (WL.an rfl rfl (WL.nil fun a ha => tN ?_)))))
     exact ⟨(i + 1, w1), ha.weak ⟨rfl, rfl, congrArg some (inc_i64 (lt_len hil hmla)), trivial⟩, ⟨rfl, hil, h, step_eq hall hta htb (by rw [teq_eq hq6, teq_eq hq7])⟩, Nat.sub_lt_sub_left hil (Nat.lt_succ_self i)⟩
 · have hend : i = la.length := Nat.le_antisymm hi (Nat.le_of_not_lt (of_decide_eq_false hf))
   exact W.run ha (W.sq (W.rg (WL.an rfl rfl (WL.nx (W.ret fun a ha => pR rfl ha rfl ⟨by rw [teq_all hle hend hall], h⟩)))))
set_option maxHeartbeats 4000000 in
theorem s93 : ∀ (N : Nat) (t u : T), t.wt ≤ N → SEnc 93 (.list (.st .instr)) t u := by
 intro N
 induction N using Nat.strongRecOn with
 | _ N IH =>
 intro t u hN
 intro w S cs ds hr hk
 obtain ⟨la, rfl⟩ := hr.is_list
 obtain ⟨lb, rfl⟩ := hk.is_list
 obtain ⟨ga, capa, hva, hmla, hgeta⟩ := list_at hr
 obtain ⟨gb, capb, hvb, hmlb, hgetb⟩ := list_at hk
 rw [hva, hvb]
 obtain ⟨Z, hz, hzl⟩ : ∃ Z : List Value, (∀ w, (zeroValue 72).run Tryz.prog w = .ok (.agg Z.toArray) w) ∧ Z.length = 51 := ⟨_, Tryz.zeroValue72, rfl⟩
 refine cW 150 Tryz.func93 rfl rfl rfl ?_
 refine W.sq (W.rg (WL.an rfl rfl (WL.nx ?_)))
 refine W.sq (W.sq (W.rg (WL.mv rfl rfl (WL.len rfl (lS Tryz.underlying56) rfl (WL.mv rfl rfl (WL.len rfl (lS Tryz.underlying56) rfl (WL.bi rfl rfl (run_neq (c := decide (la.length ≠ lb.length)) neq_cast) rfl (WL.nx (W.cond rfl (fun ht => ?_) (fun hf => W.skip fun a ha => tN ?_))))))))))
 · have hne : la.length ≠ lb.length := of_decide_eq_true ht
   refine W.sq (W.rg (WL.an rfl rfl (WL.nx (W.ret fun a ha => tR (pR rfl ha rfl ⟨by rw [teq_len hne], Fr.refl _ _⟩)))))
 have hle : la.length = lb.length := Classical.byContradiction (of_decide_eq_false hf)
 refine W.run ha (W.sq (W.sq (W.rg (WL.an rfl rfl (WL.nx ?_)))))
 refine W.bk (W.loop (ι := Nat × World) (fun i => [(0, .slice ga la.length capa), (1, .slice gb lb.length capb), (5, .int .i64 (i.1 : Int))]) (fun i w' => w' = i.2 ∧ i.1 ≤ la.length ∧ F0 w w' ∧ ∀ j, j < i.1 → la[j]? = lb[j]?) (fun i => la.length - i.1)
  (0, w) ⟨rfl, rfl, rfl, trivial⟩ ⟨rfl, Nat.zero_le _, Fr.refl _ _, fun j hj => absurd hj (Nat.not_lt_zero j)⟩ ?_)
 rintro ⟨i, _⟩ w1 ⟨rfl, hi, h, hall⟩
 simp only at hi h hall ⊢
 refine W.sq (W.sq (W.rg (WL.mv rfl rfl (WL.mv rfl rfl (WL.len rfl (lS Tryz.underlying56) rfl (WL.bi rfl rfl (run_lss (c := decide (i < la.length)) (decide_eq_decide.2 Int.ofNat_lt.symm)) rfl (WL.nx (W.cond rfl (fun ht => W.skip fun a ha => tN ?_) (fun hf => W.exit fun a ha => tE (tE (eH (tN ?_))))))))))))
 · have hil : i < la.length := of_decide_eq_true ht
   obtain ⟨ta, hta⟩ : ∃ t, la[i]? = some t := ⟨_, List.getElem?_eq_getElem hil⟩
   obtain ⟨tb, htb⟩ : ∃ t, lb[i]? = some t := ⟨_, List.getElem?_eq_getElem (hle ▸ hil)⟩
   have hwa := T.wt_mem (List.mem_of_getElem? hta)
   obtain ⟨ba, oa, da, hixa, _, hlta, hAa, ra⟩ := hgeta i ta hta
   obtain ⟨bb, ob, db, hixb, _, hltb, hAb, rb⟩ := hgetb i tb htb
   refine W.run ha (W.sq (W.bk ?_))
   have honea := Rep.one _ _ _ ra
   obtain ⟨wa, hsta, aba, fa⟩ := put_new (w := w1) (z := .agg Z.toArray) (zs := Z) iy72 rfl hzl honea.1 honea.2
   refine W.sq (W.rg (WL.mv rfl rfl (WL.mv rfl rfl (WL.ix rfl rfl (hixa _ Tryz.underlying56 iy72 rfl) rfl (WL.ld rfl (lR (f := .st .instr) iy72 ra (h.at_ hlta hAa)) rfl (WL.alloc (hz _) rfl (WL.so rfl rfl hsta (WL.nx ?_))))))))
   replace h : F0 w wa := h.trans fa
   have honeb := Rep.one _ _ _ rb
   obtain ⟨wb, hstb, abb, fb⟩ := put_new (w := wa) (z := .agg Z.toArray) (zs := Z) iy72 rfl hzl honeb.1 honeb.2
   refine W.sq (W.rg (WL.mv rfl rfl (WL.mv rfl rfl (WL.ix rfl rfl (hixb _ Tryz.underlying56 iy72 rfl) rfl (WL.ld rfl (lR (f := .st .instr) iy72 rb (h.at_ hltb hAb)) rfl (WL.alloc (hz _) rfl (WL.so rfl rfl hstb (WL.nx ?_))))))))
   replace h : F0 w wb := h.trans fb
   replace aba := (fb.blk _ aba.lt (fun h => h)).trans aba
   have hbase := h
   clear h hsta hstb fa fb
   generalize wa.heap.size = bxb at abb ⊢
   generalize w1.heap.size = bxa at aba ⊢
   replace aba : Blk wb bxa da 72 := aba
   replace ra := ra.fresh hbase
   replace rb := rb.fresh hbase
   have hltxa := aba.lt
   have hltxb := abb.lt
   have hAxa := aba.all
   have hAxb := abb.all
   obtain ⟨w1, hw1⟩ : ∃ w1, w1 = wb := ⟨_, rfl⟩
   have h : F0 wb w1 := by rw [hw1]; exact Fr.refl _ _
   rw [← hw1]
   clear hw1
   refine W.weak [(0, .slice ga la.length capa), (1, .slice gb lb.length capb), (5, .int .i64 (i : Int)), (6, ptr bxa), (7, ptr bxb)] ⟨rfl, rfl, rfl, rfl, rfl, trivial⟩ ?_
   obtain ⟨fla, rfl, hlena, hFa⟩ := ra.st_inv
   obtain ⟨aa_0, fla, rfl, ra_0, hFa⟩ := hFa.cons_inv
   obtain ⟨aa_1, fla, rfl, ra_1, hFa⟩ := hFa.cons_inv
   obtain ⟨aa_2, fla, rfl, ra_2, hFa⟩ := hFa.cons_inv
   obtain ⟨aa_3, fla, rfl, ra_3, hFa⟩ := hFa.cons_inv
   obtain ⟨aa_4, fla, rfl, ra_4, hFa⟩ := hFa.cons_inv
   obtain ⟨aa_5, fla, rfl, ra_5, hFa⟩ := hFa.cons_inv
   obtain ⟨aa_6, fla, rfl, ra_6, hFa⟩ := hFa.cons_inv
   obtain ⟨aa_7, fla, rfl, ra_7, hFa⟩ := hFa.cons_inv
   obtain ⟨aa_8, fla, rfl, ra_8, hFa⟩ := hFa.cons_inv
   obtain ⟨aa_9, fla, rfl, ra_9, hFa⟩ := hFa.cons_inv
   obtain ⟨aa_10, fla, rfl, ra_10, hFa⟩ := hFa.cons_inv
   obtain ⟨aa_11, fla, rfl, ra_11, hFa⟩ := hFa.cons_inv
   obtain ⟨aa_12, fla, rfl, ra_12, hFa⟩ := hFa.cons_inv
   obtain ⟨aa_13, fla, rfl, ra_13, hFa⟩ := hFa.cons_inv
   obtain ⟨aa_14, fla, rfl, ra_14, hFa⟩ := hFa.cons_inv
   obtain ⟨aa_15, fla, rfl, ra_15, hFa⟩ := hFa.cons_inv
   obtain ⟨aa_16, fla, rfl, ra_16, hFa⟩ := hFa.cons_inv
   obtain rfl := hFa.nil_inv
   simp only [Nat.zero_add, Nat.reduceAdd, Ty.size, SN.size] at ra_0 ra_1 ra_2 ra_3 ra_4 ra_5 ra_6 ra_7 ra_8 ra_9 ra_10 ra_11 ra_12 ra_13 ra_14 ra_15 ra_16
   obtain ⟨flb, rfl, hlenb, hFb⟩ := rb.st_inv
   obtain ⟨ab_0, flb, rfl, rb_0, hFb⟩ := hFb.cons_inv
   obtain ⟨ab_1, flb, rfl, rb_1, hFb⟩ := hFb.cons_inv
   obtain ⟨ab_2, flb, rfl, rb_2, hFb⟩ := hFb.cons_inv
   obtain ⟨ab_3, flb, rfl, rb_3, hFb⟩ := hFb.cons_inv
   obtain ⟨ab_4, flb, rfl, rb_4, hFb⟩ := hFb.cons_inv
   obtain ⟨ab_5, flb, rfl, rb_5, hFb⟩ := hFb.cons_inv
   obtain ⟨ab_6, flb, rfl, rb_6, hFb⟩ := hFb.cons_inv
   obtain ⟨ab_7, flb, rfl, rb_7, hFb⟩ := hFb.cons_inv
   obtain ⟨ab_8, flb, rfl, rb_8, hFb⟩ := hFb.cons_inv
   obtain ⟨ab_9, flb, rfl, rb_9, hFb⟩ := hFb.cons_inv
   obtain ⟨ab_10, flb, rfl, rb_10, hFb⟩ := hFb.cons_inv
   obtain ⟨ab_11, flb, rfl, rb_11, hFb⟩ := hFb.cons_inv
   obtain ⟨ab_12, flb, rfl, rb_12, hFb⟩ := hFb.cons_inv
   obtain ⟨ab_13, flb, rfl, rb_13, hFb⟩ := hFb.cons_inv
   obtain ⟨ab_14, flb, rfl, rb_14, hFb⟩ := hFb.cons_inv
   obtain ⟨ab_15, flb, rfl, rb_15, hFb⟩ := hFb.cons_inv
   obtain ⟨ab_16, flb, rfl, rb_16, hFb⟩ := hFb.cons_inv
   obtain rfl := hFb.nil_inv
   simp only [Nat.zero_add, Nat.reduceAdd, Ty.size, SN.size] at rb_0 rb_1 rb_2 rb_3 rb_4 rb_5 rb_6 rb_7 rb_8 rb_9 rb_10 rb_11 rb_12 rb_13 rb_14 rb_15 rb_16
   refine W.sq (W.sq (W.rg ?_))
   refine WL.fa rfl (fld72_0 _ _ _) rfl (WL.ld rfl (lR (f := .int) iy3 ra_0 (h.at_ hltxa (hAxa.sub 0 1))) rfl (WL.fa rfl (fld72_0 _ _ _) rfl (WL.ld rfl (lR (f := .int) iy3 rb_0 (h.at_ hltxb (hAxb.sub 0 1))) rfl (?_))))
   cases hq8 : teq aa_0 ab_0 with
   | false =>
    refine WL.binAny rfl rfl (neq3.guard ra_0 rb_0 _ _ _) (neq3.run' hq8 ra_0 rb_0 _) rfl ?_
    refine WL.skip _ _ _ rfl (WL.nx (W.ct rfl ?_))
    exact W.sq (W.rg (WL.an rfl rfl (WL.nx (W.ret fun a ha => tR (bR (tR (tR (bR (tR (pR rfl ha rfl ⟨by rw [teq_at hta htb (fun e => by cases e; exact teq_ne hq8 rfl)], hbase.trans h⟩))))))))))
   | true =>
    refine WL.binAny rfl rfl (neq3.guard ra_0 rb_0 _ _ _) (neq3.run' hq8 ra_0 rb_0 _) rfl (WL.mv rfl rfl (WL.gd (j := 5) rfl rfl rfl (WL.fa rfl (fld72_1 _ _ _) rfl (WL.gd (j := 5) rfl rfl rfl (WL.ld rfl (lR (f := .str) iy9 ra_1 (h.at_ hltxa (hAxa.sub 1 1))) rfl (WL.gd (j := 5) rfl rfl rfl (WL.fa rfl (fld72_1 _ _ _) rfl (WL.gd (j := 5) rfl rfl rfl (WL.ld rfl (lR (f := .str) iy9 rb_1 (h.at_ hltxb (hAxb.sub 1 1))) rfl (?_))))))))))
    cases hq9 : teq aa_1 ab_1 with
    | false =>
     refine WL.gd (j := 5) rfl rfl rfl (WL.binAny rfl rfl (neq9.guard ra_1 rb_1 _ _ _) (neq9.run' hq9 ra_1 rb_1 _) rfl ?_)
     refine WL.skip _ _ _ rfl (WL.nx (W.ct rfl ?_))
     exact W.sq (W.rg (WL.an rfl rfl (WL.nx (W.ret fun a ha => tR (bR (tR (tR (bR (tR (pR rfl ha rfl ⟨by rw [teq_at hta htb (fun e => by cases e; exact teq_ne hq9 rfl)], hbase.trans h⟩))))))))))
    | true =>
     refine WL.gd (j := 5) rfl rfl rfl (WL.binAny rfl rfl (neq9.guard ra_1 rb_1 _ _ _) (neq9.run' hq9 ra_1 rb_1 _) rfl (WL.pick rfl rfl rfl (WL.mv rfl rfl (WL.gd (j := 12) rfl rfl rfl (WL.fa rfl (fld72_2 _ _ _) rfl (WL.gd (j := 12) rfl rfl rfl (WL.ld rfl (lR (f := .str) iy9 ra_2 (h.at_ hltxa (hAxa.sub 2 1))) rfl (WL.gd (j := 12) rfl rfl rfl (WL.fa rfl (fld72_2 _ _ _) rfl (WL.gd (j := 12) rfl rfl rfl (WL.ld rfl (lR (f := .str) iy9 rb_2 (h.at_ hltxb (hAxb.sub 2 1))) rfl (?_))))))))))))
     cases hq10 : teq aa_2 ab_2 with
     | false =>
      refine WL.gd (j := 12) rfl rfl rfl (WL.binAny rfl rfl (neq9.guard ra_2 rb_2 _ _ _) (neq9.run' hq10 ra_2 rb_2 _) rfl ?_)
      refine WL.skip _ _ _ rfl (WL.nx (W.ct rfl ?_))
      exact W.sq (W.rg (WL.an rfl rfl (WL.nx (W.ret fun a ha => tR (bR (tR (tR (bR (tR (pR rfl ha rfl ⟨by rw [teq_at hta htb (fun e => by cases e; exact teq_ne hq10 rfl)], hbase.trans h⟩))))))))))
     | true =>
      refine WL.gd (j := 12) rfl rfl rfl (WL.binAny rfl rfl (neq9.guard ra_2 rb_2 _ _ _) (neq9.run' hq10 ra_2 rb_2 _) rfl (WL.pick rfl rfl rfl (WL.mv rfl rfl (WL.gd (j := 19) rfl rfl rfl (WL.fa rfl (fld72_5 _ _ _) rfl (WL.gd (j := 19) rfl rfl rfl (WL.ld rfl (lR (f := .bool) iy4 ra_5 (h.at_ hltxa (hAxa.sub 5 1))) rfl (WL.gd (j := 19) rfl rfl rfl (WL.fa rfl (fld72_5 _ _ _) rfl (WL.gd (j := 19) rfl rfl rfl (WL.ld rfl (lR (f := .bool) iy4 rb_5 (h.at_ hltxb (hAxb.sub 5 1))) rfl (?_))))))))))))
      cases hq11 : teq aa_5 ab_5 with
      | false =>
       refine WL.gd (j := 19) rfl rfl rfl (WL.binAny rfl rfl (neq4.guard ra_5 rb_5 _ _ _) (neq4.run' hq11 ra_5 rb_5 _) rfl ?_)
       refine WL.skip _ _ _ rfl (WL.nx (W.ct rfl ?_))
       exact W.sq (W.rg (WL.an rfl rfl (WL.nx (W.ret fun a ha => tR (bR (tR (tR (bR (tR (pR rfl ha rfl ⟨by rw [teq_at hta htb (fun e => by cases e; exact teq_ne hq11 rfl)], hbase.trans h⟩))))))))))
      | true =>
       refine WL.gd (j := 19) rfl rfl rfl (WL.binAny rfl rfl (neq4.guard ra_5 rb_5 _ _ _) (neq4.run' hq11 ra_5 rb_5 _) rfl (WL.pick rfl rfl rfl (WL.mv rfl rfl (WL.gd (j := 26) rfl rfl rfl (WL.fa rfl (fld72_8 _ _ _) rfl (WL.gd (j := 26) rfl rfl rfl (WL.ld rfl (lR (f := .st .type) iy63 ra_8 (h.at_ hltxa (hAxa.sub 38 5))) rfl (WL.gd (j := 26) rfl rfl rfl (WL.fa rfl (fld72_8 _ _ _) rfl (WL.gd (j := 26) rfl rfl rfl (WL.ld rfl (lR (f := .st .type) iy63 rb_8 (h.at_ hltxb (hAxb.sub 38 5))) rfl (?_))))))))))))
       cases hq12 : teq aa_8 ab_8 with
       | false =>
        refine WL.gd (j := 26) rfl rfl rfl (WL.binAny rfl rfl (neq63.guard ra_8 rb_8 _ _ _) (neq63.run' hq12 ra_8 rb_8 _) rfl ?_)
        refine WL.skip _ _ _ rfl (WL.nx (W.ct rfl ?_))
        exact W.sq (W.rg (WL.an rfl rfl (WL.nx (W.ret fun a ha => tR (bR (tR (tR (bR (tR (pR rfl ha rfl ⟨by rw [teq_at hta htb (fun e => by cases e; exact teq_ne hq12 rfl)], hbase.trans h⟩))))))))))
       | true =>
        refine WL.gd (j := 26) rfl rfl rfl (WL.binAny rfl rfl (neq63.guard ra_8 rb_8 _ _ _) (neq63.run' hq12 ra_8 rb_8 _) rfl (WL.pick rfl rfl rfl (WL.mv rfl rfl (WL.gd (j := 33) rfl rfl rfl (WL.fa rfl (fld72_15 _ _ _) rfl (WL.gd (j := 33) rfl rfl rfl (WL.ld rfl (lR (f := .int) iy3 ra_15 (h.at_ hltxa (hAxa.sub 49 1))) rfl (WL.gd (j := 33) rfl rfl rfl (WL.fa rfl (fld72_15 _ _ _) rfl (WL.gd (j := 33) rfl rfl rfl (WL.ld rfl (lR (f := .int) iy3 rb_15 (h.at_ hltxb (hAxb.sub 49 1))) rfl (?_))))))))))))
        cases hq13 : teq aa_15 ab_15 with
        | false =>
         refine WL.gd (j := 33) rfl rfl rfl (WL.binAny rfl rfl (neq3.guard ra_15 rb_15 _ _ _) (neq3.run' hq13 ra_15 rb_15 _) rfl ?_)
         refine WL.skip _ _ _ rfl (WL.nx (W.ct rfl ?_))
         exact W.sq (W.rg (WL.an rfl rfl (WL.nx (W.ret fun a ha => tR (bR (tR (tR (bR (tR (pR rfl ha rfl ⟨by rw [teq_at hta htb (fun e => by cases e; exact teq_ne hq13 rfl)], hbase.trans h⟩))))))))))
        | true =>
         refine WL.gd (j := 33) rfl rfl rfl (WL.binAny rfl rfl (neq3.guard ra_15 rb_15 _ _ _) (neq3.run' hq13 ra_15 rb_15 _) rfl (WL.pick rfl rfl rfl (WL.mv rfl rfl (WL.gd (j := 40) rfl rfl rfl (WL.fa rfl (fld72_16 _ _ _) rfl (WL.gd (j := 40) rfl rfl rfl (WL.ld rfl (lR (f := .int) iy3 ra_16 (h.at_ hltxa (hAxa.sub 50 1))) rfl (WL.gd (j := 40) rfl rfl rfl (WL.fa rfl (fld72_16 _ _ _) rfl (WL.gd (j := 40) rfl rfl rfl (WL.ld rfl (lR (f := .int) iy3 rb_16 (h.at_ hltxb (hAxb.sub 50 1))) rfl (?_))))))))))))
         cases hq14 : teq aa_16 ab_16 with
         | false =>
          refine WL.gd (j := 40) rfl rfl rfl (WL.binAny rfl rfl (neq3.guard ra_16 rb_16 _ _ _) (neq3.run' hq14 ra_16 rb_16 _) rfl ?_)
          refine WL.skip _ _ _ rfl (WL.nx (W.ct rfl ?_))
          exact W.sq (W.rg (WL.an rfl rfl (WL.nx (W.ret fun a ha => tR (bR (tR (tR (bR (tR (pR rfl ha rfl ⟨by rw [teq_at hta htb (fun e => by cases e; exact teq_ne hq14 rfl)], hbase.trans h⟩))))))))))
         | true =>
          refine WL.gd (j := 40) rfl rfl rfl (WL.binAny rfl rfl (neq3.guard ra_16 rb_16 _ _ _) (neq3.run' hq14 ra_16 rb_16 _) rfl (WL.pick rfl rfl rfl (WL.nx (W.cond_false rfl (W.skip fun a ha => tN ?_)))))
          refine W.run ha (W.weak [(0, .slice ga la.length capa), (1, .slice gb lb.length capb), (5, .int .i64 (i : Int)), (6, ptr bxa), (7, ptr bxb)] ⟨rfl, rfl, rfl, rfl, rfl, trivial⟩ ?_)
          refine W.sq (W.sq (W.rg ?_))
          refine WL.fa rfl (fld72_3 _ _ _) rfl (WL.ld rfl (lR (f := .list (.st .part)) iy57 ra_3 (h.at_ hltxa (hAxa.sub 3 1))) rfl (WL.fa rfl (fld72_3 _ _ _) rfl (WL.ld rfl (lR (f := .list (.st .part)) iy57 rb_3 (h.at_ hltxb (hAxb.sub 3 1))) rfl (?_))))
          cases hq15 : teq aa_3 ab_3 with
          | false =>
           refine WL.cl Tryz.call146 rfl rfl (SEnc.call (s146 sX) hq15 ra_3 rb_3 h) ?_ nop
           rintro _ w1 ⟨rfl, h⟩
           refine WL.not rfl rfl ?_
           refine WL.skip _ _ _ rfl (WL.nx (W.ct rfl ?_))
           exact W.sq (W.rg (WL.an rfl rfl (WL.nx (W.ret fun a ha => tR (bR (tR (tR (bR (tR (pR rfl ha rfl ⟨by rw [teq_at hta htb (fun e => by cases e; exact teq_ne hq15 rfl)], hbase.trans h⟩))))))))))
          | true =>
           refine WL.cl Tryz.call146 rfl rfl (SEnc.call (s146 sX) hq15 ra_3 rb_3 h) ?_ nop
           rintro _ w1 ⟨rfl, h⟩
           refine WL.not rfl rfl (WL.mv rfl rfl (WL.gd (j := 6) rfl rfl rfl (WL.fa rfl (fld72_4 _ _ _) rfl (WL.gd (j := 6) rfl rfl rfl (WL.ld rfl (lR (f := .list (.st .part)) iy57 ra_4 (h.at_ hltxa (hAxa.sub 4 1))) rfl (WL.gd (j := 6) rfl rfl rfl (WL.fa rfl (fld72_4 _ _ _) rfl (WL.gd (j := 6) rfl rfl rfl (WL.ld rfl (lR (f := .list (.st .part)) iy57 rb_4 (h.at_ hltxb (hAxb.sub 4 1))) rfl (?_))))))))))
           cases hq16 : teq aa_4 ab_4 with
           | false =>
            refine WL.gd (j := 6) rfl rfl rfl (WL.cl Tryz.call146 rfl rfl (SEnc.call (s146 sX) hq16 ra_4 rb_4 h) ?_ nop)
            rintro _ w1 ⟨rfl, h⟩
            refine WL.gd (j := 6) rfl rfl rfl (WL.not rfl rfl ?_)
            refine WL.skip _ _ _ rfl (WL.nx (W.ct rfl ?_))
            exact W.sq (W.rg (WL.an rfl rfl (WL.nx (W.ret fun a ha => tR (bR (tR (tR (bR (tR (pR rfl ha rfl ⟨by rw [teq_at hta htb (fun e => by cases e; exact teq_ne hq16 rfl)], hbase.trans h⟩))))))))))
           | true =>
            refine WL.gd (j := 6) rfl rfl rfl (WL.cl Tryz.call146 rfl rfl (SEnc.call (s146 sX) hq16 ra_4 rb_4 h) ?_ nop)
            rintro _ w1 ⟨rfl, h⟩
            refine WL.gd (j := 6) rfl rfl rfl (WL.not rfl rfl (WL.pick rfl rfl rfl (WL.mv rfl rfl (WL.gd (j := 14) rfl rfl rfl (WL.fa rfl (fld72_6 _ _ _) rfl (WL.gd (j := 14) rfl rfl rfl (WL.ld rfl (lR (f := .st .expr) iy66 ra_6 (h.at_ hltxa (hAxa.sub 6 16))) rfl (WL.gd (j := 14) rfl rfl rfl (WL.fa rfl (fld72_6 _ _ _) rfl (WL.gd (j := 14) rfl rfl rfl (WL.ld rfl (lR (f := .st .expr) iy66 rb_6 (h.at_ hltxb (hAxb.sub 6 16))) rfl (?_))))))))))))
            cases hq17 : teq aa_6 ab_6 with
            | false =>
             refine WL.gd (j := 14) rfl rfl rfl (WL.cl Tryz.call94 rfl rfl (SEnc.call (sX _ _) hq17 ra_6 rb_6 h) ?_ nop)
             rintro _ w1 ⟨rfl, h⟩
             refine WL.gd (j := 14) rfl rfl rfl (WL.not rfl rfl ?_)
             refine WL.skip _ _ _ rfl (WL.nx (W.ct rfl ?_))
             exact W.sq (W.rg (WL.an rfl rfl (WL.nx (W.ret fun a ha => tR (bR (tR (tR (bR (tR (pR rfl ha rfl ⟨by rw [teq_at hta htb (fun e => by cases e; exact teq_ne hq17 rfl)], hbase.trans h⟩))))))))))
            | true =>
             refine WL.gd (j := 14) rfl rfl rfl (WL.cl Tryz.call94 rfl rfl (SEnc.call (sX _ _) hq17 ra_6 rb_6 h) ?_ nop)
             rintro _ w1 ⟨rfl, h⟩
             refine WL.gd (j := 14) rfl rfl rfl (WL.not rfl rfl (WL.pick rfl rfl rfl (WL.mv rfl rfl (WL.gd (j := 22) rfl rfl rfl (WL.fa rfl (fld72_7 _ _ _) rfl (WL.gd (j := 22) rfl rfl rfl (WL.ld rfl (lR (f := .st .expr) iy66 ra_7 (h.at_ hltxa (hAxa.sub 22 16))) rfl (WL.gd (j := 22) rfl rfl rfl (WL.fa rfl (fld72_7 _ _ _) rfl (WL.gd (j := 22) rfl rfl rfl (WL.ld rfl (lR (f := .st .expr) iy66 rb_7 (h.at_ hltxb (hAxb.sub 22 16))) rfl (?_))))))))))))
             cases hq18 : teq aa_7 ab_7 with
             | false =>
              refine WL.gd (j := 22) rfl rfl rfl (WL.cl Tryz.call94 rfl rfl (SEnc.call (sX _ _) hq18 ra_7 rb_7 h) ?_ nop)
              rintro _ w1 ⟨rfl, h⟩
              refine WL.gd (j := 22) rfl rfl rfl (WL.not rfl rfl ?_)
              refine WL.skip _ _ _ rfl (WL.nx (W.ct rfl ?_))
              exact W.sq (W.rg (WL.an rfl rfl (WL.nx (W.ret fun a ha => tR (bR (tR (tR (bR (tR (pR rfl ha rfl ⟨by rw [teq_at hta htb (fun e => by cases e; exact teq_ne hq18 rfl)], hbase.trans h⟩))))))))))
             | true =>
              refine WL.gd (j := 22) rfl rfl rfl (WL.cl Tryz.call94 rfl rfl (SEnc.call (sX _ _) hq18 ra_7 rb_7 h) ?_ nop)
              rintro _ w1 ⟨rfl, h⟩
              refine WL.gd (j := 22) rfl rfl rfl (WL.not rfl rfl (WL.pick rfl rfl rfl (WL.nx (W.cond_false rfl (W.skip fun a ha => tN ?_)))))
              refine W.run ha (W.weak [(0, .slice ga la.length capa), (1, .slice gb lb.length capb), (5, .int .i64 (i : Int)), (6, ptr bxa), (7, ptr bxb)] ⟨rfl, rfl, rfl, rfl, rfl, trivial⟩ ?_)
              refine W.sq (W.rg ?_)
              refine WL.fa rfl (fld72_9 _ _ _) rfl (WL.ld rfl (lR (f := .list (.st .sort)) iy67 ra_9 (h.at_ hltxa (hAxa.sub 43 1))) rfl (WL.fa rfl (fld72_9 _ _ _) rfl (WL.ld rfl (lR (f := .list (.st .sort)) iy67 rb_9 (h.at_ hltxb (hAxb.sub 43 1))) rfl (?_))))
              cases hq19 : teq aa_9 ab_9 with
              | false =>
               refine WL.cl Tryz.call147 rfl rfl (SEnc.call (s147 sX) hq19 ra_9 rb_9 h) ?_ nop
               rintro _ w1 ⟨rfl, h⟩
               refine WL.not rfl rfl ?_
               refine WL.skip _ _ _ rfl (WL.nx (W.ct rfl ?_))
               exact W.sq (W.rg (WL.an rfl rfl (WL.nx (W.ret fun a ha => bR (tR (tR (bR (tR (pR rfl ha rfl ⟨by rw [teq_at hta htb (fun e => by cases e; exact teq_ne hq19 rfl)], hbase.trans h⟩)))))))))
              | true =>
               refine WL.cl Tryz.call147 rfl rfl (SEnc.call (s147 sX) hq19 ra_9 rb_9 h) ?_ nop
               rintro _ w1 ⟨rfl, h⟩
               refine WL.not rfl rfl (WL.mv rfl rfl (WL.gd (j := 6) rfl rfl rfl (WL.fa rfl (fld72_10 _ _ _) rfl (WL.gd (j := 6) rfl rfl rfl (WL.ld rfl (lR (f := .list (.st .param)) iy68 ra_10 (h.at_ hltxa (hAxa.sub 44 1))) rfl (WL.gd (j := 6) rfl rfl rfl (WL.fa rfl (fld72_10 _ _ _) rfl (WL.gd (j := 6) rfl rfl rfl (WL.ld rfl (lR (f := .list (.st .param)) iy68 rb_10 (h.at_ hltxb (hAxb.sub 44 1))) rfl (?_))))))))))
               cases hq20 : teq aa_10 ab_10 with
               | false =>
                refine WL.gd (j := 6) rfl rfl rfl (WL.cl Tryz.call92 rfl rfl (SEnc.call (s92 (fun t' u' ht => IH t'.wt (Nat.lt_trans ht (fld_lt (by simp) hwa hN)) t' u' (Nat.le_refl _))) hq20 ra_10 rb_10 h) ?_ nop)
                rintro _ w1 ⟨rfl, h⟩
                refine WL.gd (j := 6) rfl rfl rfl (WL.not rfl rfl ?_)
                refine WL.skip _ _ _ rfl (WL.nx (W.ct rfl ?_))
                exact W.sq (W.rg (WL.an rfl rfl (WL.nx (W.ret fun a ha => bR (tR (tR (bR (tR (pR rfl ha rfl ⟨by rw [teq_at hta htb (fun e => by cases e; exact teq_ne hq20 rfl)], hbase.trans h⟩)))))))))
               | true =>
                refine WL.gd (j := 6) rfl rfl rfl (WL.cl Tryz.call92 rfl rfl (SEnc.call (s92 (fun t' u' ht => IH t'.wt (Nat.lt_trans ht (fld_lt (by simp) hwa hN)) t' u' (Nat.le_refl _))) hq20 ra_10 rb_10 h) ?_ nop)
                rintro _ w1 ⟨rfl, h⟩
                refine WL.gd (j := 6) rfl rfl rfl (WL.not rfl rfl (WL.pick rfl rfl rfl (WL.mv rfl rfl (WL.gd (j := 14) rfl rfl rfl (WL.fa rfl (fld72_11 _ _ _) rfl (WL.gd (j := 14) rfl rfl rfl (WL.ld rfl (lR (f := .list (.st .source)) iy69 ra_11 (h.at_ hltxa (hAxa.sub 45 1))) rfl (WL.gd (j := 14) rfl rfl rfl (WL.fa rfl (fld72_11 _ _ _) rfl (WL.gd (j := 14) rfl rfl rfl (WL.ld rfl (lR (f := .list (.st .source)) iy69 rb_11 (h.at_ hltxb (hAxb.sub 45 1))) rfl (?_))))))))))))
                cases hq21 : teq aa_11 ab_11 with
                | false =>
                 refine WL.gd (j := 14) rfl rfl rfl (WL.cl Tryz.call148 rfl rfl (SEnc.call (s148 sX) hq21 ra_11 rb_11 h) ?_ nop)
                 rintro _ w1 ⟨rfl, h⟩
                 refine WL.gd (j := 14) rfl rfl rfl (WL.not rfl rfl ?_)
                 refine WL.skip _ _ _ rfl (WL.nx (W.ct rfl ?_))
                 exact W.sq (W.rg (WL.an rfl rfl (WL.nx (W.ret fun a ha => bR (tR (tR (bR (tR (pR rfl ha rfl ⟨by rw [teq_at hta htb (fun e => by cases e; exact teq_ne hq21 rfl)], hbase.trans h⟩)))))))))
                | true =>
                 refine WL.gd (j := 14) rfl rfl rfl (WL.cl Tryz.call148 rfl rfl (SEnc.call (s148 sX) hq21 ra_11 rb_11 h) ?_ nop)
                 rintro _ w1 ⟨rfl, h⟩
                 refine WL.gd (j := 14) rfl rfl rfl (WL.not rfl rfl (WL.pick rfl rfl rfl (WL.mv rfl rfl (WL.gd (j := 22) rfl rfl rfl (WL.fa rfl (fld72_12 _ _ _) rfl (WL.gd (j := 22) rfl rfl rfl (WL.ld rfl (lR (f := .list (.st .ctch)) iy70 ra_12 (h.at_ hltxa (hAxa.sub 46 1))) rfl (WL.gd (j := 22) rfl rfl rfl (WL.fa rfl (fld72_12 _ _ _) rfl (WL.gd (j := 22) rfl rfl rfl (WL.ld rfl (lR (f := .list (.st .ctch)) iy70 rb_12 (h.at_ hltxb (hAxb.sub 46 1))) rfl (?_))))))))))))
                 cases hq22 : teq aa_12 ab_12 with
                 | false =>
                  refine WL.gd (j := 22) rfl rfl rfl (WL.cl Tryz.call149 rfl rfl (SEnc.call (s149 (fun t' u' ht => IH t'.wt (Nat.lt_trans ht (fld_lt (by simp) hwa hN)) t' u' (Nat.le_refl _))) hq22 ra_12 rb_12 h) ?_ nop)
                  rintro _ w1 ⟨rfl, h⟩
                  refine WL.gd (j := 22) rfl rfl rfl (WL.not rfl rfl ?_)
                  refine WL.skip _ _ _ rfl (WL.nx (W.ct rfl ?_))
                  exact W.sq (W.rg (WL.an rfl rfl (WL.nx (W.ret fun a ha => bR (tR (tR (bR (tR (pR rfl ha rfl ⟨by rw [teq_at hta htb (fun e => by cases e; exact teq_ne hq22 rfl)], hbase.trans h⟩)))))))))
                 | true =>
                  refine WL.gd (j := 22) rfl rfl rfl (WL.cl Tryz.call149 rfl rfl (SEnc.call (s149 (fun t' u' ht => IH t'.wt (Nat.lt_trans ht (fld_lt (by simp) hwa hN)) t' u' (Nat.le_refl _))) hq22 ra_12 rb_12 h) ?_ nop)
                  rintro _ w1 ⟨rfl, h⟩
                  refine WL.gd (j := 22) rfl rfl rfl (WL.not rfl rfl (WL.pick rfl rfl rfl (WL.mv rfl rfl (WL.gd (j := 30) rfl rfl rfl (WL.fa rfl (fld72_13 _ _ _) rfl (WL.gd (j := 30) rfl rfl rfl (WL.ld rfl (lR (f := .list (.st .instr)) iy56 ra_13 (h.at_ hltxa (hAxa.sub 47 1))) rfl (WL.gd (j := 30) rfl rfl rfl (WL.fa rfl (fld72_13 _ _ _) rfl (WL.gd (j := 30) rfl rfl rfl (WL.ld rfl (lR (f := .list (.st .instr)) iy56 rb_13 (h.at_ hltxb (hAxb.sub 47 1))) rfl (?_))))))))))))
                  cases hq23 : teq aa_13 ab_13 with
                  | false =>
                   refine WL.gd (j := 30) rfl rfl rfl (WL.cl Tryz.call93 rfl rfl (SEnc.call (IH _ (fld_lt (by simp) hwa hN) _ _ (Nat.le_refl _)) hq23 ra_13 rb_13 h) ?_ nop)
                   rintro _ w1 ⟨rfl, h⟩
                   refine WL.gd (j := 30) rfl rfl rfl (WL.not rfl rfl ?_)
                   refine WL.skip _ _ _ rfl (WL.nx (W.ct rfl ?_))
                   exact W.sq (W.rg (WL.an rfl rfl (WL.nx (W.ret fun a ha => bR (tR (tR (bR (tR (pR rfl ha rfl ⟨by rw [teq_at hta htb (fun e => by cases e; exact teq_ne hq23 rfl)], hbase.trans h⟩)))))))))
                  | true =>
                   refine WL.gd (j := 30) rfl rfl rfl (WL.cl Tryz.call93 rfl rfl (SEnc.call (IH _ (fld_lt (by simp) hwa hN) _ _ (Nat.le_refl _)) hq23 ra_13 rb_13 h) ?_ nop)
                   rintro _ w1 ⟨rfl, h⟩
                   refine WL.gd (j := 30) rfl rfl rfl (WL.not rfl rfl (WL.pick rfl rfl rfl (WL.mv rfl rfl (WL.gd (j := 38) rfl rfl rfl (WL.fa rfl (fld72_14 _ _ _) rfl (WL.gd (j := 38) rfl rfl rfl (WL.ld rfl (lR (f := .list (.st .instr)) iy56 ra_14 (h.at_ hltxa (hAxa.sub 48 1))) rfl (WL.gd (j := 38) rfl rfl rfl (WL.fa rfl (fld72_14 _ _ _) rfl (WL.gd (j := 38) rfl rfl rfl (WL.ld rfl (lR (f := .list (.st .instr)) iy56 rb_14 (h.at_ hltxb (hAxb.sub 48 1))) rfl (?_))))))))))))
                   cases hq24 : teq aa_14 ab_14 with
                   | false =>
                    refine WL.gd (j := 38) rfl rfl rfl (WL.cl Tryz.call93 rfl rfl (SEnc.call (IH _ (fld_lt (by simp) hwa hN) _ _ (Nat.le_refl _)) hq24 ra_14 rb_14 h) ?_ nop)
                    rintro _ w1 ⟨rfl, h⟩
                    refine WL.gd (j := 38) rfl rfl rfl (WL.not rfl rfl ?_)
                    refine WL.skip _ _ _ rfl (WL.nx (W.ct rfl ?_))
                    exact W.sq (W.rg (WL.an rfl rfl (WL.nx (W.ret fun a ha => bR (tR (tR (bR (tR (pR rfl ha rfl ⟨by rw [teq_at hta htb (fun e => by cases e; exact teq_ne hq24 rfl)], hbase.trans h⟩)))))))))
                   | true =>
                    refine WL.gd (j := 38) rfl rfl rfl (WL.cl Tryz.call93 rfl rfl (SEnc.call (IH _ (fld_lt (by simp) hwa hN) _ _ (Nat.le_refl _)) hq24 ra_14 rb_14 h) ?_ nop)
                    rintro _ w1 ⟨rfl, h⟩
                    refine WL.gd (j := 38) rfl rfl rfl (WL.not rfl rfl (WL.pick rfl rfl rfl (WL.nx (W.cond_false rfl (W.skip fun a ha => bN (tN ?_))))))
                    refine W.run ha (W.rg (WL.mv rfl rfl (WL.bi rfl rfl rfl rfl (WL.an rfl rfl (WL.nil fun a ha => tN ?_)))))
                    exact ⟨(i + 1, w1), ha.weak ⟨rfl, rfl, congrArg some (inc_i64 (lt_len hil hmla)), trivial⟩, ⟨rfl, hil, hbase.trans h, step_eq hall hta htb (by rw [teq_eq hq8, teq_eq hq9, teq_eq hq10, teq_eq hq11, teq_eq hq12, teq_eq hq13, teq_eq hq14, teq_eq hq15, teq_eq hq16, teq_eq hq17, teq_eq hq18, teq_eq hq19, teq_eq hq20, teq_eq hq21, teq_eq hq22, teq_eq hq23, teq_eq hq24])⟩, Nat.sub_lt_sub_left hil (Nat.lt_succ_self i)⟩
 · have hend : i = la.length := Nat.le_antisymm hi (Nat.le_of_not_lt (of_decide_eq_false hf))
   exact W.run ha (W.sq (W.rg (WL.an rfl rfl (WL.nx (W.ret fun a ha => pR rfl ha rfl ⟨by rw [teq_all hle hend hall], h⟩)))))
theorem sI {t u : T} : SEnc 93 (.list (.st .instr)) t u := s93 t.wt t u (Nat.le_refl _)
theorem sP {t u : T} : SEnc 92 (.list (.st .param)) t u := s92 (fun _ _ _ => sI)
set_option maxHeartbeats 1000000 in
theorem s37 {t u : T} : SEnc 37 (.list (.st .template)) t u := by
 intro w S cs ds hr hk
 obtain ⟨la, rfl⟩ := hr.is_list
 obtain ⟨lb, rfl⟩ := hk.is_list
 obtain ⟨ga, capa, hva, hmla, hgeta⟩ := list_at hr
 obtain ⟨gb, capb, hvb, hmlb, hgetb⟩ := list_at hk
 rw [hva, hvb]
 obtain ⟨Z, hz, hzl⟩ : ∃ Z : List Value, (∀ w, (zeroValue 74).run Tryz.prog w = .ok (.agg Z.toArray) w) ∧ Z.length = 12 := ⟨_, Tryz.zeroValue74, rfl⟩
 refine cW 111 Tryz.func37 rfl rfl rfl ?_
 refine W.sq (W.rg (WL.an rfl rfl (WL.nx ?_)))
 refine W.sq (W.sq (W.rg (WL.mv rfl rfl (WL.len rfl (lS Tryz.underlying27) rfl (WL.mv rfl rfl (WL.len rfl (lS Tryz.underlying27) rfl (WL.bi rfl rfl (run_neq (c := decide (la.length ≠ lb.length)) neq_cast) rfl (WL.nx (W.cond rfl (fun ht => ?_) (fun hf => W.skip fun a ha => tN ?_))))))))))
 · have hne : la.length ≠ lb.length := of_decide_eq_true ht
   refine W.sq (W.rg (WL.an rfl rfl (WL.nx (W.ret fun a ha => tR (pR rfl ha rfl ⟨by rw [teq_len hne], Fr.refl _ _⟩)))))
 have hle : la.length = lb.length := Classical.byContradiction (of_decide_eq_false hf)
 refine W.run ha (W.sq (W.sq (W.rg (WL.an rfl rfl (WL.nx ?_)))))
 refine W.bk (W.loop (ι := Nat × World) (fun i => [(0, .slice ga la.length capa), (1, .slice gb lb.length capb), (5, .int .i64 (i.1 : Int))]) (fun i w' => w' = i.2 ∧ i.1 ≤ la.length ∧ F0 w w' ∧ ∀ j, j < i.1 → la[j]? = lb[j]?) (fun i => la.length - i.1)
  (0, w) ⟨rfl, rfl, rfl, trivial⟩ ⟨rfl, Nat.zero_le _, Fr.refl _ _, fun j hj => absurd hj (Nat.not_lt_zero j)⟩ ?_)
 rintro ⟨i, _⟩ w1 ⟨rfl, hi, h, hall⟩
 simp only at hi h hall ⊢
 refine W.sq (W.sq (W.rg (WL.mv rfl rfl (WL.mv rfl rfl (WL.len rfl (lS Tryz.underlying27) rfl (WL.bi rfl rfl (run_lss (c := decide (i < la.length)) (decide_eq_decide.2 Int.ofNat_lt.symm)) rfl (WL.nx (W.cond rfl (fun ht => W.skip fun a ha => tN ?_) (fun hf => W.exit fun a ha => tE (tE (eH (tN ?_))))))))))))
 · have hil : i < la.length := of_decide_eq_true ht
   obtain ⟨ta, hta⟩ : ∃ t, la[i]? = some t := ⟨_, List.getElem?_eq_getElem hil⟩
   obtain ⟨tb, htb⟩ : ∃ t, lb[i]? = some t := ⟨_, List.getElem?_eq_getElem (hle ▸ hil)⟩
   have hwa := T.wt_mem (List.mem_of_getElem? hta)
   obtain ⟨ba, oa, da, hixa, _, hlta, hAa, ra⟩ := hgeta i ta hta
   obtain ⟨bb, ob, db, hixb, _, hltb, hAb, rb⟩ := hgetb i tb htb
   refine W.run ha (W.sq (W.bk ?_))
   have honea := Rep.one _ _ _ ra
   obtain ⟨wa, hsta, aba, fa⟩ := put_new (w := w1) (z := .agg Z.toArray) (zs := Z) iy74 rfl hzl honea.1 honea.2
   refine W.sq (W.rg (WL.mv rfl rfl (WL.mv rfl rfl (WL.ix rfl rfl (hixa _ Tryz.underlying27 iy74 rfl) rfl (WL.ld rfl (lR (f := .st .template) iy74 ra (h.at_ hlta hAa)) rfl (WL.alloc (hz _) rfl (WL.so rfl rfl hsta (WL.nx ?_))))))))
   replace h : F0 w wa := h.trans fa
   have honeb := Rep.one _ _ _ rb
   obtain ⟨wb, hstb, abb, fb⟩ := put_new (w := wa) (z := .agg Z.toArray) (zs := Z) iy74 rfl hzl honeb.1 honeb.2
   refine W.sq (W.rg (WL.mv rfl rfl (WL.mv rfl rfl (WL.ix rfl rfl (hixb _ Tryz.underlying27 iy74 rfl) rfl (WL.ld rfl (lR (f := .st .template) iy74 rb (h.at_ hltb hAb)) rfl (WL.alloc (hz _) rfl (WL.so rfl rfl hstb (WL.nx ?_))))))))
   replace h : F0 w wb := h.trans fb
   replace aba := (fb.blk _ aba.lt (fun h => h)).trans aba
   have hbase := h
   clear h hsta hstb fa fb
   generalize wa.heap.size = bxb at abb ⊢
   generalize w1.heap.size = bxa at aba ⊢
   replace aba : Blk wb bxa da 74 := aba
   replace ra := ra.fresh hbase
   replace rb := rb.fresh hbase
   have hltxa := aba.lt
   have hltxb := abb.lt
   have hAxa := aba.all
   have hAxb := abb.all
   obtain ⟨w1, hw1⟩ : ∃ w1, w1 = wb := ⟨_, rfl⟩
   have h : F0 wb w1 := by rw [hw1]; exact Fr.refl _ _
   rw [← hw1]
   clear hw1
   refine W.weak [(0, .slice ga la.length capa), (1, .slice gb lb.length capb), (5, .int .i64 (i : Int)), (6, ptr bxa), (7, ptr bxb)] ⟨rfl, rfl, rfl, rfl, rfl, trivial⟩ ?_
   obtain ⟨fla, rfl, hlena, hFa⟩ := ra.st_inv
   obtain ⟨aa_0, fla, rfl, ra_0, hFa⟩ := hFa.cons_inv
   obtain ⟨aa_1, fla, rfl, ra_1, hFa⟩ := hFa.cons_inv
   obtain ⟨aa_2, fla, rfl, ra_2, hFa⟩ := hFa.cons_inv
   obtain ⟨aa_3, fla, rfl, ra_3, hFa⟩ := hFa.cons_inv
   obtain ⟨aa_4, fla, rfl, ra_4, hFa⟩ := hFa.cons_inv
   obtain ⟨aa_5, fla, rfl, ra_5, hFa⟩ := hFa.cons_inv
   obtain ⟨aa_6, fla, rfl, ra_6, hFa⟩ := hFa.cons_inv
   obtain ⟨aa_7, fla, rfl, ra_7, hFa⟩ := hFa.cons_inv
   obtain ⟨aa_8, fla, rfl, ra_8, hFa⟩ := hFa.cons_inv
   obtain ⟨aa_9, fla, rfl, ra_9, hFa⟩ := hFa.cons_inv
   obtain ⟨aa_10, fla, rfl, ra_10, hFa⟩ := hFa.cons_inv
   obtain ⟨aa_11, fla, rfl, ra_11, hFa⟩ := hFa.cons_inv
   obtain rfl := hFa.nil_inv
   simp only [Nat.zero_add, Nat.reduceAdd, Ty.size] at ra_0 ra_1 ra_2 ra_3 ra_4 ra_5 ra_6 ra_7 ra_8 ra_9 ra_10 ra_11
   obtain ⟨flb, rfl, hlenb, hFb⟩ := rb.st_inv
   obtain ⟨ab_0, flb, rfl, rb_0, hFb⟩ := hFb.cons_inv
   obtain ⟨ab_1, flb, rfl, rb_1, hFb⟩ := hFb.cons_inv
   obtain ⟨ab_2, flb, rfl, rb_2, hFb⟩ := hFb.cons_inv
   obtain ⟨ab_3, flb, rfl, rb_3, hFb⟩ := hFb.cons_inv
   obtain ⟨ab_4, flb, rfl, rb_4, hFb⟩ := hFb.cons_inv
   obtain ⟨ab_5, flb, rfl, rb_5, hFb⟩ := hFb.cons_inv
   obtain ⟨ab_6, flb, rfl, rb_6, hFb⟩ := hFb.cons_inv
   obtain ⟨ab_7, flb, rfl, rb_7, hFb⟩ := hFb.cons_inv
   obtain ⟨ab_8, flb, rfl, rb_8, hFb⟩ := hFb.cons_inv
   obtain ⟨ab_9, flb, rfl, rb_9, hFb⟩ := hFb.cons_inv
   obtain ⟨ab_10, flb, rfl, rb_10, hFb⟩ := hFb.cons_inv
   obtain ⟨ab_11, flb, rfl, rb_11, hFb⟩ := hFb.cons_inv
   obtain rfl := hFb.nil_inv
   simp only [Nat.zero_add, Nat.reduceAdd, Ty.size] at rb_0 rb_1 rb_2 rb_3 rb_4 rb_5 rb_6 rb_7 rb_8 rb_9 rb_10 rb_11
   refine W.sq (W.sq (W.rg ?_))
   refine WL.fa rfl (fld74_1 _ _ _) rfl (WL.ld rfl (lR (f := .str) iy9 ra_1 (h.at_ hltxa (hAxa.sub 1 1))) rfl (WL.fa rfl (fld74_1 _ _ _) rfl (WL.ld rfl (lR (f := .str) iy9 rb_1 (h.at_ hltxb (hAxb.sub 1 1))) rfl (?_))))
   cases hq25 : teq aa_1 ab_1 with
   | false =>
    refine WL.binAny rfl rfl (neq9.guard ra_1 rb_1 _ _ _) (neq9.run' hq25 ra_1 rb_1 _) rfl ?_
    refine WL.skip _ _ _ rfl (WL.nx (W.ct rfl ?_))
    exact W.sq (W.rg (WL.an rfl rfl (WL.nx (W.ret fun a ha => tR (bR (tR (tR (bR (tR (pR rfl ha rfl ⟨by rw [teq_at hta htb (fun e => by cases e; exact teq_ne hq25 rfl)], hbase.trans h⟩))))))))))
   | true =>
    refine WL.binAny rfl rfl (neq9.guard ra_1 rb_1 _ _ _) (neq9.run' hq25 ra_1 rb_1 _) rfl (WL.mv rfl rfl (WL.gd (j := 5) rfl rfl rfl (WL.fa rfl (fld74_3 _ _ _) rfl (WL.gd (j := 5) rfl rfl rfl (WL.ld rfl (lR (f := .bool) iy4 ra_3 (h.at_ hltxa (hAxa.sub 3 1))) rfl (WL.gd (j := 5) rfl rfl rfl (WL.fa rfl (fld74_3 _ _ _) rfl (WL.gd (j := 5) rfl rfl rfl (WL.ld rfl (lR (f := .bool) iy4 rb_3 (h.at_ hltxb (hAxb.sub 3 1))) rfl (?_))))))))))
    cases hq26 : teq aa_3 ab_3 with
    | false =>
     refine WL.gd (j := 5) rfl rfl rfl (WL.binAny rfl rfl (neq4.guard ra_3 rb_3 _ _ _) (neq4.run' hq26 ra_3 rb_3 _) rfl ?_)
     refine WL.skip _ _ _ rfl (WL.nx (W.ct rfl ?_))
     exact W.sq (W.rg (WL.an rfl rfl (WL.nx (W.ret fun a ha => tR (bR (tR (tR (bR (tR (pR rfl ha rfl ⟨by rw [teq_at hta htb (fun e => by cases e; exact teq_ne hq26 rfl)], hbase.trans h⟩))))))))))
    | true =>
     refine WL.gd (j := 5) rfl rfl rfl (WL.binAny rfl rfl (neq4.guard ra_3 rb_3 _ _ _) (neq4.run' hq26 ra_3 rb_3 _) rfl (WL.pick rfl rfl rfl (WL.mv rfl rfl (WL.gd (j := 12) rfl rfl rfl (WL.fa rfl (fld74_4 _ _ _) rfl (WL.gd (j := 12) rfl rfl rfl (WL.ld rfl (lR (f := .str) iy9 ra_4 (h.at_ hltxa (hAxa.sub 4 1))) rfl (WL.gd (j := 12) rfl rfl rfl (WL.fa rfl (fld74_4 _ _ _) rfl (WL.gd (j := 12) rfl rfl rfl (WL.ld rfl (lR (f := .str) iy9 rb_4 (h.at_ hltxb (hAxb.sub 4 1))) rfl (?_))))))))))))
     cases hq27 : teq aa_4 ab_4 with
     | false =>
      refine WL.gd (j := 12) rfl rfl rfl (WL.binAny rfl rfl (neq9.guard ra_4 rb_4 _ _ _) (neq9.run' hq27 ra_4 rb_4 _) rfl ?_)
      refine WL.skip _ _ _ rfl (WL.nx (W.ct rfl ?_))
      exact W.sq (W.rg (WL.an rfl rfl (WL.nx (W.ret fun a ha => tR (bR (tR (tR (bR (tR (pR rfl ha rfl ⟨by rw [teq_at hta htb (fun e => by cases e; exact teq_ne hq27 rfl)], hbase.trans h⟩))))))))))
     | true =>
      refine WL.gd (j := 12) rfl rfl rfl (WL.binAny rfl rfl (neq9.guard ra_4 rb_4 _ _ _) (neq9.run' hq27 ra_4 rb_4 _) rfl (WL.pick rfl rfl rfl (WL.mv rfl rfl (WL.gd (j := 19) rfl rfl rfl (WL.fa rfl (fld74_7 _ _ _) rfl (WL.gd (j := 19) rfl rfl rfl (WL.ld rfl (lR (f := .str) iy9 ra_7 (h.at_ hltxa (hAxa.sub 7 1))) rfl (WL.gd (j := 19) rfl rfl rfl (WL.fa rfl (fld74_7 _ _ _) rfl (WL.gd (j := 19) rfl rfl rfl (WL.ld rfl (lR (f := .str) iy9 rb_7 (h.at_ hltxb (hAxb.sub 7 1))) rfl (?_))))))))))))
      cases hq28 : teq aa_7 ab_7 with
      | false =>
       refine WL.gd (j := 19) rfl rfl rfl (WL.binAny rfl rfl (neq9.guard ra_7 rb_7 _ _ _) (neq9.run' hq28 ra_7 rb_7 _) rfl ?_)
       refine WL.skip _ _ _ rfl (WL.nx (W.ct rfl ?_))
       exact W.sq (W.rg (WL.an rfl rfl (WL.nx (W.ret fun a ha => tR (bR (tR (tR (bR (tR (pR rfl ha rfl ⟨by rw [teq_at hta htb (fun e => by cases e; exact teq_ne hq28 rfl)], hbase.trans h⟩))))))))))
      | true =>
       refine WL.gd (j := 19) rfl rfl rfl (WL.binAny rfl rfl (neq9.guard ra_7 rb_7 _ _ _) (neq9.run' hq28 ra_7 rb_7 _) rfl (WL.pick rfl rfl rfl (WL.mv rfl rfl (WL.gd (j := 26) rfl rfl rfl (WL.fa rfl (fld74_8 _ _ _) rfl (WL.gd (j := 26) rfl rfl rfl (WL.ld rfl (lR (f := .int) iy3 ra_8 (h.at_ hltxa (hAxa.sub 8 1))) rfl (WL.gd (j := 26) rfl rfl rfl (WL.fa rfl (fld74_8 _ _ _) rfl (WL.gd (j := 26) rfl rfl rfl (WL.ld rfl (lR (f := .int) iy3 rb_8 (h.at_ hltxb (hAxb.sub 8 1))) rfl (?_))))))))))))
       cases hq29 : teq aa_8 ab_8 with
       | false =>
        refine WL.gd (j := 26) rfl rfl rfl (WL.binAny rfl rfl (neq3.guard ra_8 rb_8 _ _ _) (neq3.run' hq29 ra_8 rb_8 _) rfl ?_)
        refine WL.skip _ _ _ rfl (WL.nx (W.ct rfl ?_))
        exact W.sq (W.rg (WL.an rfl rfl (WL.nx (W.ret fun a ha => tR (bR (tR (tR (bR (tR (pR rfl ha rfl ⟨by rw [teq_at hta htb (fun e => by cases e; exact teq_ne hq29 rfl)], hbase.trans h⟩))))))))))
       | true =>
        refine WL.gd (j := 26) rfl rfl rfl (WL.binAny rfl rfl (neq3.guard ra_8 rb_8 _ _ _) (neq3.run' hq29 ra_8 rb_8 _) rfl (WL.pick rfl rfl rfl (WL.mv rfl rfl (WL.gd (j := 33) rfl rfl rfl (WL.fa rfl (fld74_9 _ _ _) rfl (WL.gd (j := 33) rfl rfl rfl (WL.ld rfl (lR (f := .int) iy3 ra_9 (h.at_ hltxa (hAxa.sub 9 1))) rfl (WL.gd (j := 33) rfl rfl rfl (WL.fa rfl (fld74_9 _ _ _) rfl (WL.gd (j := 33) rfl rfl rfl (WL.ld rfl (lR (f := .int) iy3 rb_9 (h.at_ hltxb (hAxb.sub 9 1))) rfl (?_))))))))))))
        cases hq30 : teq aa_9 ab_9 with
        | false =>
         refine WL.gd (j := 33) rfl rfl rfl (WL.binAny rfl rfl (neq3.guard ra_9 rb_9 _ _ _) (neq3.run' hq30 ra_9 rb_9 _) rfl ?_)
         refine WL.skip _ _ _ rfl (WL.nx (W.ct rfl ?_))
         exact W.sq (W.rg (WL.an rfl rfl (WL.nx (W.ret fun a ha => tR (bR (tR (tR (bR (tR (pR rfl ha rfl ⟨by rw [teq_at hta htb (fun e => by cases e; exact teq_ne hq30 rfl)], hbase.trans h⟩))))))))))
        | true =>
         refine WL.gd (j := 33) rfl rfl rfl (WL.binAny rfl rfl (neq3.guard ra_9 rb_9 _ _ _) (neq3.run' hq30 ra_9 rb_9 _) rfl (WL.pick rfl rfl rfl (WL.mv rfl rfl (WL.gd (j := 40) rfl rfl rfl (WL.fa rfl (fld74_10 _ _ _) rfl (WL.gd (j := 40) rfl rfl rfl (WL.ld rfl (lR (f := .int) iy3 ra_10 (h.at_ hltxa (hAxa.sub 10 1))) rfl (WL.gd (j := 40) rfl rfl rfl (WL.fa rfl (fld74_10 _ _ _) rfl (WL.gd (j := 40) rfl rfl rfl (WL.ld rfl (lR (f := .int) iy3 rb_10 (h.at_ hltxb (hAxb.sub 10 1))) rfl (?_))))))))))))
         cases hq31 : teq aa_10 ab_10 with
         | false =>
          refine WL.gd (j := 40) rfl rfl rfl (WL.binAny rfl rfl (neq3.guard ra_10 rb_10 _ _ _) (neq3.run' hq31 ra_10 rb_10 _) rfl ?_)
          refine WL.skip _ _ _ rfl (WL.nx (W.ct rfl ?_))
          exact W.sq (W.rg (WL.an rfl rfl (WL.nx (W.ret fun a ha => tR (bR (tR (tR (bR (tR (pR rfl ha rfl ⟨by rw [teq_at hta htb (fun e => by cases e; exact teq_ne hq31 rfl)], hbase.trans h⟩))))))))))
         | true =>
          refine WL.gd (j := 40) rfl rfl rfl (WL.binAny rfl rfl (neq3.guard ra_10 rb_10 _ _ _) (neq3.run' hq31 ra_10 rb_10 _) rfl (WL.pick rfl rfl rfl (WL.mv rfl rfl (WL.gd (j := 47) rfl rfl rfl (WL.fa rfl (fld74_11 _ _ _) rfl (WL.gd (j := 47) rfl rfl rfl (WL.ld rfl (lR (f := .int) iy3 ra_11 (h.at_ hltxa (hAxa.sub 11 1))) rfl (WL.gd (j := 47) rfl rfl rfl (WL.fa rfl (fld74_11 _ _ _) rfl (WL.gd (j := 47) rfl rfl rfl (WL.ld rfl (lR (f := .int) iy3 rb_11 (h.at_ hltxb (hAxb.sub 11 1))) rfl (?_))))))))))))
          cases hq32 : teq aa_11 ab_11 with
          | false =>
           refine WL.gd (j := 47) rfl rfl rfl (WL.binAny rfl rfl (neq3.guard ra_11 rb_11 _ _ _) (neq3.run' hq32 ra_11 rb_11 _) rfl ?_)
           refine WL.skip _ _ _ rfl (WL.nx (W.ct rfl ?_))
           exact W.sq (W.rg (WL.an rfl rfl (WL.nx (W.ret fun a ha => tR (bR (tR (tR (bR (tR (pR rfl ha rfl ⟨by rw [teq_at hta htb (fun e => by cases e; exact teq_ne hq32 rfl)], hbase.trans h⟩))))))))))
          | true =>
           refine WL.gd (j := 47) rfl rfl rfl (WL.binAny rfl rfl (neq3.guard ra_11 rb_11 _ _ _) (neq3.run' hq32 ra_11 rb_11 _) rfl (WL.pick rfl rfl rfl (WL.nx (W.cond_false rfl (W.skip fun a ha => tN ?_)))))
           refine W.run ha (W.weak [(0, .slice ga la.length capa), (1, .slice gb lb.length capb), (5, .int .i64 (i : Int)), (6, ptr bxa), (7, ptr bxb)] ⟨rfl, rfl, rfl, rfl, rfl, trivial⟩ ?_)
           refine W.sq (W.rg ?_)
           refine WL.fa rfl (fld74_0 _ _ _) rfl (WL.ld rfl (lR (f := .list (.st .expr)) iy64 ra_0 (h.at_ hltxa (hAxa.sub 0 1))) rfl (WL.fa rfl (fld74_0 _ _ _) rfl (WL.ld rfl (lR (f := .list (.st .expr)) iy64 rb_0 (h.at_ hltxb (hAxb.sub 0 1))) rfl (?_))))
           cases hq33 : teq aa_0 ab_0 with
           | false =>
            refine WL.cl Tryz.call90 rfl rfl (SEnc.call s90' hq33 ra_0 rb_0 h) ?_ nop
            rintro _ w1 ⟨rfl, h⟩
            refine WL.not rfl rfl ?_
            refine WL.skip _ _ _ rfl (WL.nx (W.ct rfl ?_))
            exact W.sq (W.rg (WL.an rfl rfl (WL.nx (W.ret fun a ha => bR (tR (tR (bR (tR (pR rfl ha rfl ⟨by rw [teq_at hta htb (fun e => by cases e; exact teq_ne hq33 rfl)], hbase.trans h⟩)))))))))
           | true =>
            refine WL.cl Tryz.call90 rfl rfl (SEnc.call s90' hq33 ra_0 rb_0 h) ?_ nop
            rintro _ w1 ⟨rfl, h⟩
            refine WL.not rfl rfl (WL.mv rfl rfl (WL.gd (j := 6) rfl rfl rfl (WL.fa rfl (fld74_2 _ _ _) rfl (WL.gd (j := 6) rfl rfl rfl (WL.ld rfl (lR (f := .list (.str)) iy44 ra_2 (h.at_ hltxa (hAxa.sub 2 1))) rfl (WL.gd (j := 6) rfl rfl rfl (WL.fa rfl (fld74_2 _ _ _) rfl (WL.gd (j := 6) rfl rfl rfl (WL.ld rfl (lR (f := .list (.str)) iy44 rb_2 (h.at_ hltxb (hAxb.sub 2 1))) rfl (?_))))))))))
            cases hq34 : teq aa_2 ab_2 with
            | false =>
             refine WL.gd (j := 6) rfl rfl rfl (WL.cl Tryz.call91 rfl rfl (SEnc.call s91 hq34 ra_2 rb_2 h) ?_ nop)
             rintro _ w1 ⟨rfl, h⟩
             refine WL.gd (j := 6) rfl rfl rfl (WL.not rfl rfl ?_)
             refine WL.skip _ _ _ rfl (WL.nx (W.ct rfl ?_))
             exact W.sq (W.rg (WL.an rfl rfl (WL.nx (W.ret fun a ha => bR (tR (tR (bR (tR (pR rfl ha rfl ⟨by rw [teq_at hta htb (fun e => by cases e; exact teq_ne hq34 rfl)], hbase.trans h⟩)))))))))
            | true =>
             refine WL.gd (j := 6) rfl rfl rfl (WL.cl Tryz.call91 rfl rfl (SEnc.call s91 hq34 ra_2 rb_2 h) ?_ nop)
             rintro _ w1 ⟨rfl, h⟩
             refine WL.gd (j := 6) rfl rfl rfl (WL.not rfl rfl (WL.pick rfl rfl rfl (WL.mv rfl rfl (WL.gd (j := 14) rfl rfl rfl (WL.fa rfl (fld74_5 _ _ _) rfl (WL.gd (j := 14) rfl rfl rfl (WL.ld rfl (lR (f := .list (.st .param)) iy68 ra_5 (h.at_ hltxa (hAxa.sub 5 1))) rfl (WL.gd (j := 14) rfl rfl rfl (WL.fa rfl (fld74_5 _ _ _) rfl (WL.gd (j := 14) rfl rfl rfl (WL.ld rfl (lR (f := .list (.st .param)) iy68 rb_5 (h.at_ hltxb (hAxb.sub 5 1))) rfl (?_))))))))))))
             cases hq35 : teq aa_5 ab_5 with
             | false =>
              refine WL.gd (j := 14) rfl rfl rfl (WL.cl Tryz.call92 rfl rfl (SEnc.call sP hq35 ra_5 rb_5 h) ?_ nop)
              rintro _ w1 ⟨rfl, h⟩
              refine WL.gd (j := 14) rfl rfl rfl (WL.not rfl rfl ?_)
              refine WL.skip _ _ _ rfl (WL.nx (W.ct rfl ?_))
              exact W.sq (W.rg (WL.an rfl rfl (WL.nx (W.ret fun a ha => bR (tR (tR (bR (tR (pR rfl ha rfl ⟨by rw [teq_at hta htb (fun e => by cases e; exact teq_ne hq35 rfl)], hbase.trans h⟩)))))))))
             | true =>
              refine WL.gd (j := 14) rfl rfl rfl (WL.cl Tryz.call92 rfl rfl (SEnc.call sP hq35 ra_5 rb_5 h) ?_ nop)
              rintro _ w1 ⟨rfl, h⟩
              refine WL.gd (j := 14) rfl rfl rfl (WL.not rfl rfl (WL.pick rfl rfl rfl (WL.mv rfl rfl (WL.gd (j := 22) rfl rfl rfl (WL.fa rfl (fld74_6 _ _ _) rfl (WL.gd (j := 22) rfl rfl rfl (WL.ld rfl (lR (f := .list (.st .instr)) iy56 ra_6 (h.at_ hltxa (hAxa.sub 6 1))) rfl (WL.gd (j := 22) rfl rfl rfl (WL.fa rfl (fld74_6 _ _ _) rfl (WL.gd (j := 22) rfl rfl rfl (WL.ld rfl (lR (f := .list (.st .instr)) iy56 rb_6 (h.at_ hltxb (hAxb.sub 6 1))) rfl (?_))))))))))))
              cases hq36 : teq aa_6 ab_6 with
              | false =>
               refine WL.gd (j := 22) rfl rfl rfl (WL.cl Tryz.call93 rfl rfl (SEnc.call sI hq36 ra_6 rb_6 h) ?_ nop)
               rintro _ w1 ⟨rfl, h⟩
               refine WL.gd (j := 22) rfl rfl rfl (WL.not rfl rfl ?_)
               refine WL.skip _ _ _ rfl (WL.nx (W.ct rfl ?_))
               exact W.sq (W.rg (WL.an rfl rfl (WL.nx (W.ret fun a ha => bR (tR (tR (bR (tR (pR rfl ha rfl ⟨by rw [teq_at hta htb (fun e => by cases e; exact teq_ne hq36 rfl)], hbase.trans h⟩)))))))))
              | true =>
               refine WL.gd (j := 22) rfl rfl rfl (WL.cl Tryz.call93 rfl rfl (SEnc.call sI hq36 ra_6 rb_6 h) ?_ nop)
               rintro _ w1 ⟨rfl, h⟩
               refine WL.gd (j := 22) rfl rfl rfl (WL.not rfl rfl (WL.pick rfl rfl rfl (WL.nx (W.cond_false rfl (W.skip fun a ha => bN (tN ?_))))))
               refine W.run ha (W.rg (WL.mv rfl rfl (WL.bi rfl rfl rfl rfl (WL.an rfl rfl (WL.nil fun a ha => tN ?_)))))
               exact ⟨(i + 1, w1), ha.weak ⟨rfl, rfl, congrArg some (inc_i64 (lt_len hil hmla)), trivial⟩, ⟨rfl, hil, hbase.trans h, step_eq hall hta htb (by rw [teq_eq hq25, teq_eq hq26, teq_eq hq27, teq_eq hq28, teq_eq hq29, teq_eq hq30, teq_eq hq31, teq_eq hq32, teq_eq hq33, teq_eq hq34, teq_eq hq35, teq_eq hq36])⟩, Nat.sub_lt_sub_left hil (Nat.lt_succ_self i)⟩
 · have hend : i = la.length := Nat.le_antisymm hi (Nat.le_of_not_lt (of_decide_eq_false hf))
   exact W.run ha (W.sq (W.rg (WL.an rfl rfl (WL.nx (W.ret fun a ha => pR rfl ha rfl ⟨by rw [teq_all hle hend hall], h⟩)))))
set_option maxHeartbeats 1000000 in
theorem s38 {t u : T} : SEnc 38 (.list (.st .dfn)) t u := by
 intro w S cs ds hr hk
 obtain ⟨la, rfl⟩ := hr.is_list
 obtain ⟨lb, rfl⟩ := hk.is_list
 obtain ⟨ga, capa, hva, hmla, hgeta⟩ := list_at hr
 obtain ⟨gb, capb, hvb, hmlb, hgetb⟩ := list_at hk
 rw [hva, hvb]
 obtain ⟨Z, hz, hzl⟩ : ∃ Z : List Value, (∀ w, (zeroValue 140).run Tryz.prog w = .ok (.agg Z.toArray) w) ∧ Z.length = 27 := ⟨_, Tryz.zeroValue140, rfl⟩
 refine cW 83 Tryz.func38 rfl rfl rfl ?_
 refine W.sq (W.rg (WL.an rfl rfl (WL.nx ?_)))
 refine W.sq (W.sq (W.rg (WL.mv rfl rfl (WL.len rfl (lS Tryz.underlying28) rfl (WL.mv rfl rfl (WL.len rfl (lS Tryz.underlying28) rfl (WL.bi rfl rfl (run_neq (c := decide (la.length ≠ lb.length)) neq_cast) rfl (WL.nx (W.cond rfl (fun ht => ?_) (fun hf => W.skip fun a ha => tN ?_))))))))))
 · have hne : la.length ≠ lb.length := of_decide_eq_true ht
   refine W.sq (W.rg (WL.an rfl rfl (WL.nx (W.ret fun a ha => tR (pR rfl ha rfl ⟨by rw [teq_len hne], Fr.refl _ _⟩)))))
 have hle : la.length = lb.length := Classical.byContradiction (of_decide_eq_false hf)
 refine W.run ha (W.sq (W.sq (W.rg (WL.an rfl rfl (WL.nx ?_)))))
 refine W.bk (W.loop (ι := Nat × World) (fun i => [(0, .slice ga la.length capa), (1, .slice gb lb.length capb), (5, .int .i64 (i.1 : Int))]) (fun i w' => w' = i.2 ∧ i.1 ≤ la.length ∧ F0 w w' ∧ ∀ j, j < i.1 → la[j]? = lb[j]?) (fun i => la.length - i.1)
  (0, w) ⟨rfl, rfl, rfl, trivial⟩ ⟨rfl, Nat.zero_le _, Fr.refl _ _, fun j hj => absurd hj (Nat.not_lt_zero j)⟩ ?_)
 rintro ⟨i, _⟩ w1 ⟨rfl, hi, h, hall⟩
 simp only at hi h hall ⊢
 refine W.sq (W.sq (W.rg (WL.mv rfl rfl (WL.mv rfl rfl (WL.len rfl (lS Tryz.underlying28) rfl (WL.bi rfl rfl (run_lss (c := decide (i < la.length)) (decide_eq_decide.2 Int.ofNat_lt.symm)) rfl (WL.nx (W.cond rfl (fun ht => W.skip fun a ha => tN ?_) (fun hf => W.exit fun a ha => tE (tE (eH (tN ?_))))))))))))
 · have hil : i < la.length := of_decide_eq_true ht
   obtain ⟨ta, hta⟩ : ∃ t, la[i]? = some t := ⟨_, List.getElem?_eq_getElem hil⟩
   obtain ⟨tb, htb⟩ : ∃ t, lb[i]? = some t := ⟨_, List.getElem?_eq_getElem (hle ▸ hil)⟩
   have hwa := T.wt_mem (List.mem_of_getElem? hta)
   obtain ⟨ba, oa, da, hixa, _, hlta, hAa, ra⟩ := hgeta i ta hta
   obtain ⟨bb, ob, db, hixb, _, hltb, hAb, rb⟩ := hgetb i tb htb
   refine W.run ha (W.sq (W.bk ?_))
   have honea := Rep.one _ _ _ ra
   obtain ⟨wa, hsta, aba, fa⟩ := put_new (w := w1) (z := .agg Z.toArray) (zs := Z) iy140 rfl hzl honea.1 honea.2
   refine W.sq (W.rg (WL.mv rfl rfl (WL.mv rfl rfl (WL.ix rfl rfl (hixa _ Tryz.underlying28 iy140 rfl) rfl (WL.ld rfl (lR (f := .st .dfn) iy140 ra (h.at_ hlta hAa)) rfl (WL.alloc (hz _) rfl (WL.so rfl rfl hsta (WL.nx ?_))))))))
   replace h : F0 w wa := h.trans fa
   have honeb := Rep.one _ _ _ rb
   obtain ⟨wb, hstb, abb, fb⟩ := put_new (w := wa) (z := .agg Z.toArray) (zs := Z) iy140 rfl hzl honeb.1 honeb.2
   refine W.sq (W.rg (WL.mv rfl rfl (WL.mv rfl rfl (WL.ix rfl rfl (hixb _ Tryz.underlying28 iy140 rfl) rfl (WL.ld rfl (lR (f := .st .dfn) iy140 rb (h.at_ hltb hAb)) rfl (WL.alloc (hz _) rfl (WL.so rfl rfl hstb (WL.nx ?_))))))))
   replace h : F0 w wb := h.trans fb
   replace aba := (fb.blk _ aba.lt (fun h => h)).trans aba
   have hbase := h
   clear h hsta hstb fa fb
   generalize wa.heap.size = bxb at abb ⊢
   generalize w1.heap.size = bxa at aba ⊢
   replace aba : Blk wb bxa da 140 := aba
   replace ra := ra.fresh hbase
   replace rb := rb.fresh hbase
   have hltxa := aba.lt
   have hltxb := abb.lt
   have hAxa := aba.all
   have hAxb := abb.all
   obtain ⟨w1, hw1⟩ : ∃ w1, w1 = wb := ⟨_, rfl⟩
   have h : F0 wb w1 := by rw [hw1]; exact Fr.refl _ _
   rw [← hw1]
   clear hw1
   refine W.weak [(0, .slice ga la.length capa), (1, .slice gb lb.length capb), (5, .int .i64 (i : Int)), (6, ptr bxa), (7, ptr bxb)] ⟨rfl, rfl, rfl, rfl, rfl, trivial⟩ ?_
   obtain ⟨fla, rfl, hlena, hFa⟩ := ra.st_inv
   obtain ⟨aa_0, fla, rfl, ra_0, hFa⟩ := hFa.cons_inv
   obtain ⟨aa_1, fla, rfl, ra_1, hFa⟩ := hFa.cons_inv
   obtain ⟨aa_2, fla, rfl, ra_2, hFa⟩ := hFa.cons_inv
   obtain ⟨aa_3, fla, rfl, ra_3, hFa⟩ := hFa.cons_inv
   obtain ⟨aa_4, fla, rfl, ra_4, hFa⟩ := hFa.cons_inv
   obtain ⟨aa_5, fla, rfl, ra_5, hFa⟩ := hFa.cons_inv
   obtain ⟨aa_6, fla, rfl, ra_6, hFa⟩ := hFa.cons_inv
   obtain ⟨aa_7, fla, rfl, ra_7, hFa⟩ := hFa.cons_inv
   obtain rfl := hFa.nil_inv
   simp only [Nat.zero_add, Nat.reduceAdd, Ty.size, SN.size] at ra_0 ra_1 ra_2 ra_3 ra_4 ra_5 ra_6 ra_7
   obtain ⟨flb, rfl, hlenb, hFb⟩ := rb.st_inv
   obtain ⟨ab_0, flb, rfl, rb_0, hFb⟩ := hFb.cons_inv
   obtain ⟨ab_1, flb, rfl, rb_1, hFb⟩ := hFb.cons_inv
   obtain ⟨ab_2, flb, rfl, rb_2, hFb⟩ := hFb.cons_inv
   obtain ⟨ab_3, flb, rfl, rb_3, hFb⟩ := hFb.cons_inv
   obtain ⟨ab_4, flb, rfl, rb_4, hFb⟩ := hFb.cons_inv
   obtain ⟨ab_5, flb, rfl, rb_5, hFb⟩ := hFb.cons_inv
   obtain ⟨ab_6, flb, rfl, rb_6, hFb⟩ := hFb.cons_inv
   obtain ⟨ab_7, flb, rfl, rb_7, hFb⟩ := hFb.cons_inv
   obtain rfl := hFb.nil_inv
   simp only [Nat.zero_add, Nat.reduceAdd, Ty.size, SN.size] at rb_0 rb_1 rb_2 rb_3 rb_4 rb_5 rb_6 rb_7
   refine W.sq (W.rg ?_)
   refine WL.fa rfl (fld140_0 _ _ _) rfl (WL.ld rfl (lR (f := .str) iy9 ra_0 (h.at_ hltxa (hAxa.sub 0 1))) rfl (WL.fa rfl (fld140_0 _ _ _) rfl (WL.ld rfl (lR (f := .str) iy9 rb_0 (h.at_ hltxb (hAxb.sub 0 1))) rfl (?_))))
   cases hq37 : teq aa_0 ab_0 with
   | false =>
    refine WL.binAny rfl rfl (neq9.guard ra_0 rb_0 _ _ _) (neq9.run' hq37 ra_0 rb_0 _) rfl ?_
    refine WL.skip _ _ _ rfl (WL.nx (W.ct rfl ?_))
    exact W.sq (W.rg (WL.an rfl rfl (WL.nx (W.ret fun a ha => bR (tR (tR (bR (tR (pR rfl ha rfl ⟨by rw [teq_at hta htb (fun e => by cases e; exact teq_ne hq37 rfl)], hbase.trans h⟩)))))))))
   | true =>
    refine WL.binAny rfl rfl (neq9.guard ra_0 rb_0 _ _ _) (neq9.run' hq37 ra_0 rb_0 _) rfl (WL.mv rfl rfl (WL.gd (j := 5) rfl rfl rfl (WL.fa rfl (fld140_2 _ _ _) rfl (WL.gd (j := 5) rfl rfl rfl (WL.ld rfl (lR (f := .st .type) iy63 ra_2 (h.at_ hltxa (hAxa.sub 2 5))) rfl (WL.gd (j := 5) rfl rfl rfl (WL.fa rfl (fld140_2 _ _ _) rfl (WL.gd (j := 5) rfl rfl rfl (WL.ld rfl (lR (f := .st .type) iy63 rb_2 (h.at_ hltxb (hAxb.sub 2 5))) rfl (?_))))))))))
    cases hq38 : teq aa_2 ab_2 with
    | false =>
     refine WL.gd (j := 5) rfl rfl rfl (WL.binAny rfl rfl (neq63.guard ra_2 rb_2 _ _ _) (neq63.run' hq38 ra_2 rb_2 _) rfl ?_)
     refine WL.skip _ _ _ rfl (WL.nx (W.ct rfl ?_))
     exact W.sq (W.rg (WL.an rfl rfl (WL.nx (W.ret fun a ha => bR (tR (tR (bR (tR (pR rfl ha rfl ⟨by rw [teq_at hta htb (fun e => by cases e; exact teq_ne hq38 rfl)], hbase.trans h⟩)))))))))
    | true =>
     refine WL.gd (j := 5) rfl rfl rfl (WL.binAny rfl rfl (neq63.guard ra_2 rb_2 _ _ _) (neq63.run' hq38 ra_2 rb_2 _) rfl (WL.pick rfl rfl rfl (WL.mv rfl rfl (WL.gd (j := 12) rfl rfl rfl (WL.fa rfl (fld140_4 _ _ _) rfl (WL.gd (j := 12) rfl rfl rfl (WL.ld rfl (lR (f := .str) iy9 ra_4 (h.at_ hltxa (hAxa.sub 23 1))) rfl (WL.gd (j := 12) rfl rfl rfl (WL.fa rfl (fld140_4 _ _ _) rfl (WL.gd (j := 12) rfl rfl rfl (WL.ld rfl (lR (f := .str) iy9 rb_4 (h.at_ hltxb (hAxb.sub 23 1))) rfl (?_))))))))))))
     cases hq39 : teq aa_4 ab_4 with
     | false =>
      refine WL.gd (j := 12) rfl rfl rfl (WL.binAny rfl rfl (neq9.guard ra_4 rb_4 _ _ _) (neq9.run' hq39 ra_4 rb_4 _) rfl ?_)
      refine WL.skip _ _ _ rfl (WL.nx (W.ct rfl ?_))
      exact W.sq (W.rg (WL.an rfl rfl (WL.nx (W.ret fun a ha => bR (tR (tR (bR (tR (pR rfl ha rfl ⟨by rw [teq_at hta htb (fun e => by cases e; exact teq_ne hq39 rfl)], hbase.trans h⟩)))))))))
     | true =>
      refine WL.gd (j := 12) rfl rfl rfl (WL.binAny rfl rfl (neq9.guard ra_4 rb_4 _ _ _) (neq9.run' hq39 ra_4 rb_4 _) rfl (WL.pick rfl rfl rfl (WL.mv rfl rfl (WL.gd (j := 19) rfl rfl rfl (WL.fa rfl (fld140_5 _ _ _) rfl (WL.gd (j := 19) rfl rfl rfl (WL.ld rfl (lR (f := .int) iy3 ra_5 (h.at_ hltxa (hAxa.sub 24 1))) rfl (WL.gd (j := 19) rfl rfl rfl (WL.fa rfl (fld140_5 _ _ _) rfl (WL.gd (j := 19) rfl rfl rfl (WL.ld rfl (lR (f := .int) iy3 rb_5 (h.at_ hltxb (hAxb.sub 24 1))) rfl (?_))))))))))))
      cases hq40 : teq aa_5 ab_5 with
      | false =>
       refine WL.gd (j := 19) rfl rfl rfl (WL.binAny rfl rfl (neq3.guard ra_5 rb_5 _ _ _) (neq3.run' hq40 ra_5 rb_5 _) rfl ?_)
       refine WL.skip _ _ _ rfl (WL.nx (W.ct rfl ?_))
       exact W.sq (W.rg (WL.an rfl rfl (WL.nx (W.ret fun a ha => bR (tR (tR (bR (tR (pR rfl ha rfl ⟨by rw [teq_at hta htb (fun e => by cases e; exact teq_ne hq40 rfl)], hbase.trans h⟩)))))))))
      | true =>
       refine WL.gd (j := 19) rfl rfl rfl (WL.binAny rfl rfl (neq3.guard ra_5 rb_5 _ _ _) (neq3.run' hq40 ra_5 rb_5 _) rfl (WL.pick rfl rfl rfl (WL.mv rfl rfl (WL.gd (j := 26) rfl rfl rfl (WL.fa rfl (fld140_6 _ _ _) rfl (WL.gd (j := 26) rfl rfl rfl (WL.ld rfl (lR (f := .int) iy3 ra_6 (h.at_ hltxa (hAxa.sub 25 1))) rfl (WL.gd (j := 26) rfl rfl rfl (WL.fa rfl (fld140_6 _ _ _) rfl (WL.gd (j := 26) rfl rfl rfl (WL.ld rfl (lR (f := .int) iy3 rb_6 (h.at_ hltxb (hAxb.sub 25 1))) rfl (?_))))))))))))
       cases hq41 : teq aa_6 ab_6 with
       | false =>
        refine WL.gd (j := 26) rfl rfl rfl (WL.binAny rfl rfl (neq3.guard ra_6 rb_6 _ _ _) (neq3.run' hq41 ra_6 rb_6 _) rfl ?_)
        refine WL.skip _ _ _ rfl (WL.nx (W.ct rfl ?_))
        exact W.sq (W.rg (WL.an rfl rfl (WL.nx (W.ret fun a ha => bR (tR (tR (bR (tR (pR rfl ha rfl ⟨by rw [teq_at hta htb (fun e => by cases e; exact teq_ne hq41 rfl)], hbase.trans h⟩)))))))))
       | true =>
        refine WL.gd (j := 26) rfl rfl rfl (WL.binAny rfl rfl (neq3.guard ra_6 rb_6 _ _ _) (neq3.run' hq41 ra_6 rb_6 _) rfl (WL.pick rfl rfl rfl (WL.mv rfl rfl (WL.gd (j := 33) rfl rfl rfl (WL.fa rfl (fld140_7 _ _ _) rfl (WL.gd (j := 33) rfl rfl rfl (WL.ld rfl (lR (f := .int) iy3 ra_7 (h.at_ hltxa (hAxa.sub 26 1))) rfl (WL.gd (j := 33) rfl rfl rfl (WL.fa rfl (fld140_7 _ _ _) rfl (WL.gd (j := 33) rfl rfl rfl (WL.ld rfl (lR (f := .int) iy3 rb_7 (h.at_ hltxb (hAxb.sub 26 1))) rfl (?_))))))))))))
        cases hq42 : teq aa_7 ab_7 with
        | false =>
         refine WL.gd (j := 33) rfl rfl rfl (WL.binAny rfl rfl (neq3.guard ra_7 rb_7 _ _ _) (neq3.run' hq42 ra_7 rb_7 _) rfl ?_)
         refine WL.skip _ _ _ rfl (WL.nx (W.ct rfl ?_))
         exact W.sq (W.rg (WL.an rfl rfl (WL.nx (W.ret fun a ha => bR (tR (tR (bR (tR (pR rfl ha rfl ⟨by rw [teq_at hta htb (fun e => by cases e; exact teq_ne hq42 rfl)], hbase.trans h⟩)))))))))
        | true =>
         refine WL.gd (j := 33) rfl rfl rfl (WL.binAny rfl rfl (neq3.guard ra_7 rb_7 _ _ _) (neq3.run' hq42 ra_7 rb_7 _) rfl (WL.pick rfl rfl rfl (WL.mv rfl rfl (WL.gd (j := 40) rfl rfl rfl (WL.fa rfl (fld140_1 _ _ _) rfl (WL.gd (j := 40) rfl rfl rfl (WL.ld rfl (lR (f := .list (.st .param)) iy68 ra_1 (h.at_ hltxa (hAxa.sub 1 1))) rfl (WL.gd (j := 40) rfl rfl rfl (WL.fa rfl (fld140_1 _ _ _) rfl (WL.gd (j := 40) rfl rfl rfl (WL.ld rfl (lR (f := .list (.st .param)) iy68 rb_1 (h.at_ hltxb (hAxb.sub 1 1))) rfl (?_))))))))))))
         cases hq43 : teq aa_1 ab_1 with
         | false =>
          refine WL.gd (j := 40) rfl rfl rfl (WL.cl Tryz.call92 rfl rfl (SEnc.call sP hq43 ra_1 rb_1 h) ?_ nop)
          rintro _ w1 ⟨rfl, h⟩
          refine WL.gd (j := 40) rfl rfl rfl (WL.not rfl rfl ?_)
          refine WL.skip _ _ _ rfl (WL.nx (W.ct rfl ?_))
          exact W.sq (W.rg (WL.an rfl rfl (WL.nx (W.ret fun a ha => bR (tR (tR (bR (tR (pR rfl ha rfl ⟨by rw [teq_at hta htb (fun e => by cases e; exact teq_ne hq43 rfl)], hbase.trans h⟩)))))))))
         | true =>
          refine WL.gd (j := 40) rfl rfl rfl (WL.cl Tryz.call92 rfl rfl (SEnc.call sP hq43 ra_1 rb_1 h) ?_ nop)
          rintro _ w1 ⟨rfl, h⟩
          refine WL.gd (j := 40) rfl rfl rfl (WL.not rfl rfl (WL.pick rfl rfl rfl (WL.mv rfl rfl (WL.gd (j := 48) rfl rfl rfl (WL.fa rfl (fld140_3 _ _ _) rfl (WL.gd (j := 48) rfl rfl rfl (WL.ld rfl (lR (f := .st .expr) iy66 ra_3 (h.at_ hltxa (hAxa.sub 7 16))) rfl (WL.gd (j := 48) rfl rfl rfl (WL.fa rfl (fld140_3 _ _ _) rfl (WL.gd (j := 48) rfl rfl rfl (WL.ld rfl (lR (f := .st .expr) iy66 rb_3 (h.at_ hltxb (hAxb.sub 7 16))) rfl (?_))))))))))))
          cases hq44 : teq aa_3 ab_3 with
          | false =>
           refine WL.gd (j := 48) rfl rfl rfl (WL.cl Tryz.call94 rfl rfl (SEnc.call (sX _ _) hq44 ra_3 rb_3 h) ?_ nop)
           rintro _ w1 ⟨rfl, h⟩
           refine WL.gd (j := 48) rfl rfl rfl (WL.not rfl rfl ?_)
           refine WL.skip _ _ _ rfl (WL.nx (W.ct rfl ?_))
           exact W.sq (W.rg (WL.an rfl rfl (WL.nx (W.ret fun a ha => bR (tR (tR (bR (tR (pR rfl ha rfl ⟨by rw [teq_at hta htb (fun e => by cases e; exact teq_ne hq44 rfl)], hbase.trans h⟩)))))))))
          | true =>
           refine WL.gd (j := 48) rfl rfl rfl (WL.cl Tryz.call94 rfl rfl (SEnc.call (sX _ _) hq44 ra_3 rb_3 h) ?_ nop)
           rintro _ w1 ⟨rfl, h⟩
           refine WL.gd (j := 48) rfl rfl rfl (WL.not rfl rfl (WL.pick rfl rfl rfl (WL.nx (W.cond_false rfl (W.skip fun a ha => bN (tN ?_))))))
           refine W.run ha (W.rg (WL.mv rfl rfl (WL.bi rfl rfl rfl rfl (WL.an rfl rfl (WL.nil fun a ha => tN ?_)))))
           exact ⟨(i + 1, w1), ha.weak ⟨rfl, rfl, congrArg some (inc_i64 (lt_len hil hmla)), trivial⟩, ⟨rfl, hil, hbase.trans h, step_eq hall hta htb (by rw [teq_eq hq37, teq_eq hq38, teq_eq hq39, teq_eq hq40, teq_eq hq41, teq_eq hq42, teq_eq hq43, teq_eq hq44])⟩, Nat.sub_lt_sub_left hil (Nat.lt_succ_self i)⟩
 · have hend : i = la.length := Nat.le_antisymm hi (Nat.le_of_not_lt (of_decide_eq_false hf))
   exact W.run ha (W.sq (W.rg (WL.an rfl rfl (WL.nx (W.ret fun a ha => pR rfl ha rfl ⟨by rw [teq_all hle hend hall], h⟩)))))
set_option maxHeartbeats 1000000 in
theorem s39 {t u : T} : SEnc 39 (.list (.st .global)) t u := by
 intro w S cs ds hr hk
 obtain ⟨la, rfl⟩ := hr.is_list
 obtain ⟨lb, rfl⟩ := hk.is_list
 obtain ⟨ga, capa, hva, hmla, hgeta⟩ := list_at hr
 obtain ⟨gb, capb, hvb, hmlb, hgetb⟩ := list_at hk
 rw [hva, hvb]
 obtain ⟨Z, hz, hzl⟩ : ∃ Z : List Value, (∀ w, (zeroValue 144).run Tryz.prog w = .ok (.agg Z.toArray) w) ∧ Z.length = 29 := ⟨_, Tryz.zeroValue144, rfl⟩
 refine cW 97 Tryz.func39 rfl rfl rfl ?_
 refine W.sq (W.rg (WL.an rfl rfl (WL.nx ?_)))
 refine W.sq (W.sq (W.rg (WL.mv rfl rfl (WL.len rfl (lS Tryz.underlying29) rfl (WL.mv rfl rfl (WL.len rfl (lS Tryz.underlying29) rfl (WL.bi rfl rfl (run_neq (c := decide (la.length ≠ lb.length)) neq_cast) rfl (WL.nx (W.cond rfl (fun ht => ?_) (fun hf => W.skip fun a ha => tN ?_))))))))))
 · have hne : la.length ≠ lb.length := of_decide_eq_true ht
   refine W.sq (W.rg (WL.an rfl rfl (WL.nx (W.ret fun a ha => tR (pR rfl ha rfl ⟨by rw [teq_len hne], Fr.refl _ _⟩)))))
 have hle : la.length = lb.length := Classical.byContradiction (of_decide_eq_false hf)
 refine W.run ha (W.sq (W.sq (W.rg (WL.an rfl rfl (WL.nx ?_)))))
 refine W.bk (W.loop (ι := Nat × World) (fun i => [(0, .slice ga la.length capa), (1, .slice gb lb.length capb), (5, .int .i64 (i.1 : Int))]) (fun i w' => w' = i.2 ∧ i.1 ≤ la.length ∧ F0 w w' ∧ ∀ j, j < i.1 → la[j]? = lb[j]?) (fun i => la.length - i.1)
  (0, w) ⟨rfl, rfl, rfl, trivial⟩ ⟨rfl, Nat.zero_le _, Fr.refl _ _, fun j hj => absurd hj (Nat.not_lt_zero j)⟩ ?_)
 rintro ⟨i, _⟩ w1 ⟨rfl, hi, h, hall⟩
 simp only at hi h hall ⊢
 refine W.sq (W.sq (W.rg (WL.mv rfl rfl (WL.mv rfl rfl (WL.len rfl (lS Tryz.underlying29) rfl (WL.bi rfl rfl (run_lss (c := decide (i < la.length)) (decide_eq_decide.2 Int.ofNat_lt.symm)) rfl (WL.nx (W.cond rfl (fun ht => W.skip fun a ha => tN ?_) (fun hf => W.exit fun a ha => tE (tE (eH (tN ?_))))))))))))
 · have hil : i < la.length := of_decide_eq_true ht
   obtain ⟨ta, hta⟩ : ∃ t, la[i]? = some t := ⟨_, List.getElem?_eq_getElem hil⟩
   obtain ⟨tb, htb⟩ : ∃ t, lb[i]? = some t := ⟨_, List.getElem?_eq_getElem (hle ▸ hil)⟩
   have hwa := T.wt_mem (List.mem_of_getElem? hta)
   obtain ⟨ba, oa, da, hixa, _, hlta, hAa, ra⟩ := hgeta i ta hta
   obtain ⟨bb, ob, db, hixb, _, hltb, hAb, rb⟩ := hgetb i tb htb
   refine W.run ha (W.sq (W.bk ?_))
   have honea := Rep.one _ _ _ ra
   obtain ⟨wa, hsta, aba, fa⟩ := put_new (w := w1) (z := .agg Z.toArray) (zs := Z) iy144 rfl hzl honea.1 honea.2
   refine W.sq (W.rg (WL.mv rfl rfl (WL.mv rfl rfl (WL.ix rfl rfl (hixa _ Tryz.underlying29 iy144 rfl) rfl (WL.ld rfl (lR (f := .st .global) iy144 ra (h.at_ hlta hAa)) rfl (WL.alloc (hz _) rfl (WL.so rfl rfl hsta (WL.nx ?_))))))))
   replace h : F0 w wa := h.trans fa
   have honeb := Rep.one _ _ _ rb
   obtain ⟨wb, hstb, abb, fb⟩ := put_new (w := wa) (z := .agg Z.toArray) (zs := Z) iy144 rfl hzl honeb.1 honeb.2
   refine W.sq (W.rg (WL.mv rfl rfl (WL.mv rfl rfl (WL.ix rfl rfl (hixb _ Tryz.underlying29 iy144 rfl) rfl (WL.ld rfl (lR (f := .st .global) iy144 rb (h.at_ hltb hAb)) rfl (WL.alloc (hz _) rfl (WL.so rfl rfl hstb (WL.nx ?_))))))))
   replace h : F0 w wb := h.trans fb
   replace aba := (fb.blk _ aba.lt (fun h => h)).trans aba
   have hbase := h
   clear h hsta hstb fa fb
   generalize wa.heap.size = bxb at abb ⊢
   generalize w1.heap.size = bxa at aba ⊢
   replace aba : Blk wb bxa da 144 := aba
   replace ra := ra.fresh hbase
   replace rb := rb.fresh hbase
   have hltxa := aba.lt
   have hltxb := abb.lt
   have hAxa := aba.all
   have hAxb := abb.all
   obtain ⟨w1, hw1⟩ : ∃ w1, w1 = wb := ⟨_, rfl⟩
   have h : F0 wb w1 := by rw [hw1]; exact Fr.refl _ _
   rw [← hw1]
   clear hw1
   refine W.weak [(0, .slice ga la.length capa), (1, .slice gb lb.length capb), (5, .int .i64 (i : Int)), (6, ptr bxa), (7, ptr bxb)] ⟨rfl, rfl, rfl, rfl, rfl, trivial⟩ ?_
   obtain ⟨fla, rfl, hlena, hFa⟩ := ra.st_inv
   obtain ⟨aa_0, fla, rfl, ra_0, hFa⟩ := hFa.cons_inv
   obtain ⟨aa_1, fla, rfl, ra_1, hFa⟩ := hFa.cons_inv
   obtain ⟨aa_2, fla, rfl, ra_2, hFa⟩ := hFa.cons_inv
   obtain ⟨aa_3, fla, rfl, ra_3, hFa⟩ := hFa.cons_inv
   obtain ⟨aa_4, fla, rfl, ra_4, hFa⟩ := hFa.cons_inv
   obtain ⟨aa_5, fla, rfl, ra_5, hFa⟩ := hFa.cons_inv
   obtain ⟨aa_6, fla, rfl, ra_6, hFa⟩ := hFa.cons_inv
   obtain ⟨aa_7, fla, rfl, ra_7, hFa⟩ := hFa.cons_inv
   obtain ⟨aa_8, fla, rfl, ra_8, hFa⟩ := hFa.cons_inv
   obtain ⟨aa_9, fla, rfl, ra_9, hFa⟩ := hFa.cons_inv
   obtain rfl := hFa.nil_inv
   simp only [Nat.zero_add, Nat.reduceAdd, Ty.size, SN.size] at ra_0 ra_1 ra_2 ra_3 ra_4 ra_5 ra_6 ra_7 ra_8 ra_9
   obtain ⟨flb, rfl, hlenb, hFb⟩ := rb.st_inv
   obtain ⟨ab_0, flb, rfl, rb_0, hFb⟩ := hFb.cons_inv
   obtain ⟨ab_1, flb, rfl, rb_1, hFb⟩ := hFb.cons_inv
   obtain ⟨ab_2, flb, rfl, rb_2, hFb⟩ := hFb.cons_inv
   obtain ⟨ab_3, flb, rfl, rb_3, hFb⟩ := hFb.cons_inv
   obtain ⟨ab_4, flb, rfl, rb_4, hFb⟩ := hFb.cons_inv
   obtain ⟨ab_5, flb, rfl, rb_5, hFb⟩ := hFb.cons_inv
   obtain ⟨ab_6, flb, rfl, rb_6, hFb⟩ := hFb.cons_inv
   obtain ⟨ab_7, flb, rfl, rb_7, hFb⟩ := hFb.cons_inv
   obtain ⟨ab_8, flb, rfl, rb_8, hFb⟩ := hFb.cons_inv
   obtain ⟨ab_9, flb, rfl, rb_9, hFb⟩ := hFb.cons_inv
   obtain rfl := hFb.nil_inv
   simp only [Nat.zero_add, Nat.reduceAdd, Ty.size, SN.size] at rb_0 rb_1 rb_2 rb_3 rb_4 rb_5 rb_6 rb_7 rb_8 rb_9
   refine W.sq (W.rg ?_)
   refine WL.fa rfl (fld144_0 _ _ _) rfl (WL.ld rfl (lR (f := .str) iy9 ra_0 (h.at_ hltxa (hAxa.sub 0 1))) rfl (WL.fa rfl (fld144_0 _ _ _) rfl (WL.ld rfl (lR (f := .str) iy9 rb_0 (h.at_ hltxb (hAxb.sub 0 1))) rfl (?_))))
   cases hq45 : teq aa_0 ab_0 with
   | false =>
    refine WL.binAny rfl rfl (neq9.guard ra_0 rb_0 _ _ _) (neq9.run' hq45 ra_0 rb_0 _) rfl ?_
    refine WL.skip _ _ _ rfl (WL.nx (W.ct rfl ?_))
    exact W.sq (W.rg (WL.an rfl rfl (WL.nx (W.ret fun a ha => bR (tR (tR (bR (tR (pR rfl ha rfl ⟨by rw [teq_at hta htb (fun e => by cases e; exact teq_ne hq45 rfl)], hbase.trans h⟩)))))))))
   | true =>
    refine WL.binAny rfl rfl (neq9.guard ra_0 rb_0 _ _ _) (neq9.run' hq45 ra_0 rb_0 _) rfl (WL.mv rfl rfl (WL.gd (j := 5) rfl rfl rfl (WL.fa rfl (fld144_1 _ _ _) rfl (WL.gd (j := 5) rfl rfl rfl (WL.ld rfl (lR (f := .bool) iy4 ra_1 (h.at_ hltxa (hAxa.sub 1 1))) rfl (WL.gd (j := 5) rfl rfl rfl (WL.fa rfl (fld144_1 _ _ _) rfl (WL.gd (j := 5) rfl rfl rfl (WL.ld rfl (lR (f := .bool) iy4 rb_1 (h.at_ hltxb (hAxb.sub 1 1))) rfl (?_))))))))))
    cases hq46 : teq aa_1 ab_1 with
    | false =>
     refine WL.gd (j := 5) rfl rfl rfl (WL.binAny rfl rfl (neq4.guard ra_1 rb_1 _ _ _) (neq4.run' hq46 ra_1 rb_1 _) rfl ?_)
     refine WL.skip _ _ _ rfl (WL.nx (W.ct rfl ?_))
     exact W.sq (W.rg (WL.an rfl rfl (WL.nx (W.ret fun a ha => bR (tR (tR (bR (tR (pR rfl ha rfl ⟨by rw [teq_at hta htb (fun e => by cases e; exact teq_ne hq46 rfl)], hbase.trans h⟩)))))))))
    | true =>
     refine WL.gd (j := 5) rfl rfl rfl (WL.binAny rfl rfl (neq4.guard ra_1 rb_1 _ _ _) (neq4.run' hq46 ra_1 rb_1 _) rfl (WL.pick rfl rfl rfl (WL.mv rfl rfl (WL.gd (j := 12) rfl rfl rfl (WL.fa rfl (fld144_2 _ _ _) rfl (WL.gd (j := 12) rfl rfl rfl (WL.ld rfl (lR (f := .st .type) iy63 ra_2 (h.at_ hltxa (hAxa.sub 2 5))) rfl (WL.gd (j := 12) rfl rfl rfl (WL.fa rfl (fld144_2 _ _ _) rfl (WL.gd (j := 12) rfl rfl rfl (WL.ld rfl (lR (f := .st .type) iy63 rb_2 (h.at_ hltxb (hAxb.sub 2 5))) rfl (?_))))))))))))
     cases hq47 : teq aa_2 ab_2 with
     | false =>
      refine WL.gd (j := 12) rfl rfl rfl (WL.binAny rfl rfl (neq63.guard ra_2 rb_2 _ _ _) (neq63.run' hq47 ra_2 rb_2 _) rfl ?_)
      refine WL.skip _ _ _ rfl (WL.nx (W.ct rfl ?_))
      exact W.sq (W.rg (WL.an rfl rfl (WL.nx (W.ret fun a ha => bR (tR (tR (bR (tR (pR rfl ha rfl ⟨by rw [teq_at hta htb (fun e => by cases e; exact teq_ne hq47 rfl)], hbase.trans h⟩)))))))))
     | true =>
      refine WL.gd (j := 12) rfl rfl rfl (WL.binAny rfl rfl (neq63.guard ra_2 rb_2 _ _ _) (neq63.run' hq47 ra_2 rb_2 _) rfl (WL.pick rfl rfl rfl (WL.mv rfl rfl (WL.gd (j := 19) rfl rfl rfl (WL.fa rfl (fld144_3 _ _ _) rfl (WL.gd (j := 19) rfl rfl rfl (WL.ld rfl (lR (f := .bool) iy4 ra_3 (h.at_ hltxa (hAxa.sub 7 1))) rfl (WL.gd (j := 19) rfl rfl rfl (WL.fa rfl (fld144_3 _ _ _) rfl (WL.gd (j := 19) rfl rfl rfl (WL.ld rfl (lR (f := .bool) iy4 rb_3 (h.at_ hltxb (hAxb.sub 7 1))) rfl (?_))))))))))))
      cases hq48 : teq aa_3 ab_3 with
      | false =>
       refine WL.gd (j := 19) rfl rfl rfl (WL.binAny rfl rfl (neq4.guard ra_3 rb_3 _ _ _) (neq4.run' hq48 ra_3 rb_3 _) rfl ?_)
       refine WL.skip _ _ _ rfl (WL.nx (W.ct rfl ?_))
       exact W.sq (W.rg (WL.an rfl rfl (WL.nx (W.ret fun a ha => bR (tR (tR (bR (tR (pR rfl ha rfl ⟨by rw [teq_at hta htb (fun e => by cases e; exact teq_ne hq48 rfl)], hbase.trans h⟩)))))))))
      | true =>
       refine WL.gd (j := 19) rfl rfl rfl (WL.binAny rfl rfl (neq4.guard ra_3 rb_3 _ _ _) (neq4.run' hq48 ra_3 rb_3 _) rfl (WL.pick rfl rfl rfl (WL.mv rfl rfl (WL.gd (j := 26) rfl rfl rfl (WL.fa rfl (fld144_6 _ _ _) rfl (WL.gd (j := 26) rfl rfl rfl (WL.ld rfl (lR (f := .str) iy9 ra_6 (h.at_ hltxa (hAxa.sub 25 1))) rfl (WL.gd (j := 26) rfl rfl rfl (WL.fa rfl (fld144_6 _ _ _) rfl (WL.gd (j := 26) rfl rfl rfl (WL.ld rfl (lR (f := .str) iy9 rb_6 (h.at_ hltxb (hAxb.sub 25 1))) rfl (?_))))))))))))
       cases hq49 : teq aa_6 ab_6 with
       | false =>
        refine WL.gd (j := 26) rfl rfl rfl (WL.binAny rfl rfl (neq9.guard ra_6 rb_6 _ _ _) (neq9.run' hq49 ra_6 rb_6 _) rfl ?_)
        refine WL.skip _ _ _ rfl (WL.nx (W.ct rfl ?_))
        exact W.sq (W.rg (WL.an rfl rfl (WL.nx (W.ret fun a ha => bR (tR (tR (bR (tR (pR rfl ha rfl ⟨by rw [teq_at hta htb (fun e => by cases e; exact teq_ne hq49 rfl)], hbase.trans h⟩)))))))))
       | true =>
        refine WL.gd (j := 26) rfl rfl rfl (WL.binAny rfl rfl (neq9.guard ra_6 rb_6 _ _ _) (neq9.run' hq49 ra_6 rb_6 _) rfl (WL.pick rfl rfl rfl (WL.mv rfl rfl (WL.gd (j := 33) rfl rfl rfl (WL.fa rfl (fld144_7 _ _ _) rfl (WL.gd (j := 33) rfl rfl rfl (WL.ld rfl (lR (f := .int) iy3 ra_7 (h.at_ hltxa (hAxa.sub 26 1))) rfl (WL.gd (j := 33) rfl rfl rfl (WL.fa rfl (fld144_7 _ _ _) rfl (WL.gd (j := 33) rfl rfl rfl (WL.ld rfl (lR (f := .int) iy3 rb_7 (h.at_ hltxb (hAxb.sub 26 1))) rfl (?_))))))))))))
        cases hq50 : teq aa_7 ab_7 with
        | false =>
         refine WL.gd (j := 33) rfl rfl rfl (WL.binAny rfl rfl (neq3.guard ra_7 rb_7 _ _ _) (neq3.run' hq50 ra_7 rb_7 _) rfl ?_)
         refine WL.skip _ _ _ rfl (WL.nx (W.ct rfl ?_))
         exact W.sq (W.rg (WL.an rfl rfl (WL.nx (W.ret fun a ha => bR (tR (tR (bR (tR (pR rfl ha rfl ⟨by rw [teq_at hta htb (fun e => by cases e; exact teq_ne hq50 rfl)], hbase.trans h⟩)))))))))
        | true =>
         refine WL.gd (j := 33) rfl rfl rfl (WL.binAny rfl rfl (neq3.guard ra_7 rb_7 _ _ _) (neq3.run' hq50 ra_7 rb_7 _) rfl (WL.pick rfl rfl rfl (WL.mv rfl rfl (WL.gd (j := 40) rfl rfl rfl (WL.fa rfl (fld144_8 _ _ _) rfl (WL.gd (j := 40) rfl rfl rfl (WL.ld rfl (lR (f := .int) iy3 ra_8 (h.at_ hltxa (hAxa.sub 27 1))) rfl (WL.gd (j := 40) rfl rfl rfl (WL.fa rfl (fld144_8 _ _ _) rfl (WL.gd (j := 40) rfl rfl rfl (WL.ld rfl (lR (f := .int) iy3 rb_8 (h.at_ hltxb (hAxb.sub 27 1))) rfl (?_))))))))))))
         cases hq51 : teq aa_8 ab_8 with
         | false =>
          refine WL.gd (j := 40) rfl rfl rfl (WL.binAny rfl rfl (neq3.guard ra_8 rb_8 _ _ _) (neq3.run' hq51 ra_8 rb_8 _) rfl ?_)
          refine WL.skip _ _ _ rfl (WL.nx (W.ct rfl ?_))
          exact W.sq (W.rg (WL.an rfl rfl (WL.nx (W.ret fun a ha => bR (tR (tR (bR (tR (pR rfl ha rfl ⟨by rw [teq_at hta htb (fun e => by cases e; exact teq_ne hq51 rfl)], hbase.trans h⟩)))))))))
         | true =>
          refine WL.gd (j := 40) rfl rfl rfl (WL.binAny rfl rfl (neq3.guard ra_8 rb_8 _ _ _) (neq3.run' hq51 ra_8 rb_8 _) rfl (WL.pick rfl rfl rfl (WL.mv rfl rfl (WL.gd (j := 47) rfl rfl rfl (WL.fa rfl (fld144_9 _ _ _) rfl (WL.gd (j := 47) rfl rfl rfl (WL.ld rfl (lR (f := .int) iy3 ra_9 (h.at_ hltxa (hAxa.sub 28 1))) rfl (WL.gd (j := 47) rfl rfl rfl (WL.fa rfl (fld144_9 _ _ _) rfl (WL.gd (j := 47) rfl rfl rfl (WL.ld rfl (lR (f := .int) iy3 rb_9 (h.at_ hltxb (hAxb.sub 28 1))) rfl (?_))))))))))))
          cases hq52 : teq aa_9 ab_9 with
          | false =>
           refine WL.gd (j := 47) rfl rfl rfl (WL.binAny rfl rfl (neq3.guard ra_9 rb_9 _ _ _) (neq3.run' hq52 ra_9 rb_9 _) rfl ?_)
           refine WL.skip _ _ _ rfl (WL.nx (W.ct rfl ?_))
           exact W.sq (W.rg (WL.an rfl rfl (WL.nx (W.ret fun a ha => bR (tR (tR (bR (tR (pR rfl ha rfl ⟨by rw [teq_at hta htb (fun e => by cases e; exact teq_ne hq52 rfl)], hbase.trans h⟩)))))))))
          | true =>
           refine WL.gd (j := 47) rfl rfl rfl (WL.binAny rfl rfl (neq3.guard ra_9 rb_9 _ _ _) (neq3.run' hq52 ra_9 rb_9 _) rfl (WL.pick rfl rfl rfl (WL.mv rfl rfl (WL.gd (j := 54) rfl rfl rfl (WL.fa rfl (fld144_4 _ _ _) rfl (WL.gd (j := 54) rfl rfl rfl (WL.ld rfl (lR (f := .st .expr) iy66 ra_4 (h.at_ hltxa (hAxa.sub 8 16))) rfl (WL.gd (j := 54) rfl rfl rfl (WL.fa rfl (fld144_4 _ _ _) rfl (WL.gd (j := 54) rfl rfl rfl (WL.ld rfl (lR (f := .st .expr) iy66 rb_4 (h.at_ hltxb (hAxb.sub 8 16))) rfl (?_))))))))))))
           cases hq53 : teq aa_4 ab_4 with
           | false =>
            refine WL.gd (j := 54) rfl rfl rfl (WL.cl Tryz.call94 rfl rfl (SEnc.call (sX _ _) hq53 ra_4 rb_4 h) ?_ nop)
            rintro _ w1 ⟨rfl, h⟩
            refine WL.gd (j := 54) rfl rfl rfl (WL.not rfl rfl ?_)
            refine WL.skip _ _ _ rfl (WL.nx (W.ct rfl ?_))
            exact W.sq (W.rg (WL.an rfl rfl (WL.nx (W.ret fun a ha => bR (tR (tR (bR (tR (pR rfl ha rfl ⟨by rw [teq_at hta htb (fun e => by cases e; exact teq_ne hq53 rfl)], hbase.trans h⟩)))))))))
           | true =>
            refine WL.gd (j := 54) rfl rfl rfl (WL.cl Tryz.call94 rfl rfl (SEnc.call (sX _ _) hq53 ra_4 rb_4 h) ?_ nop)
            rintro _ w1 ⟨rfl, h⟩
            refine WL.gd (j := 54) rfl rfl rfl (WL.not rfl rfl (WL.pick rfl rfl rfl (WL.mv rfl rfl (WL.gd (j := 62) rfl rfl rfl (WL.fa rfl (fld144_5 _ _ _) rfl (WL.gd (j := 62) rfl rfl rfl (WL.ld rfl (lR (f := .list (.st .instr)) iy56 ra_5 (h.at_ hltxa (hAxa.sub 24 1))) rfl (WL.gd (j := 62) rfl rfl rfl (WL.fa rfl (fld144_5 _ _ _) rfl (WL.gd (j := 62) rfl rfl rfl (WL.ld rfl (lR (f := .list (.st .instr)) iy56 rb_5 (h.at_ hltxb (hAxb.sub 24 1))) rfl (?_))))))))))))
            cases hq54 : teq aa_5 ab_5 with
            | false =>
             refine WL.gd (j := 62) rfl rfl rfl (WL.cl Tryz.call93 rfl rfl (SEnc.call sI hq54 ra_5 rb_5 h) ?_ nop)
             rintro _ w1 ⟨rfl, h⟩
             refine WL.gd (j := 62) rfl rfl rfl (WL.not rfl rfl ?_)
             refine WL.skip _ _ _ rfl (WL.nx (W.ct rfl ?_))
             exact W.sq (W.rg (WL.an rfl rfl (WL.nx (W.ret fun a ha => bR (tR (tR (bR (tR (pR rfl ha rfl ⟨by rw [teq_at hta htb (fun e => by cases e; exact teq_ne hq54 rfl)], hbase.trans h⟩)))))))))
            | true =>
             refine WL.gd (j := 62) rfl rfl rfl (WL.cl Tryz.call93 rfl rfl (SEnc.call sI hq54 ra_5 rb_5 h) ?_ nop)
             rintro _ w1 ⟨rfl, h⟩
             refine WL.gd (j := 62) rfl rfl rfl (WL.not rfl rfl (WL.pick rfl rfl rfl (WL.nx (W.cond_false rfl (W.skip fun a ha => bN (tN ?_))))))
             refine W.run ha (W.rg (WL.mv rfl rfl (WL.bi rfl rfl rfl rfl (WL.an rfl rfl (WL.nil fun a ha => tN ?_)))))
             exact ⟨(i + 1, w1), ha.weak ⟨rfl, rfl, congrArg some (inc_i64 (lt_len hil hmla)), trivial⟩, ⟨rfl, hil, hbase.trans h, step_eq hall hta htb (by rw [teq_eq hq45, teq_eq hq46, teq_eq hq47, teq_eq hq48, teq_eq hq49, teq_eq hq50, teq_eq hq51, teq_eq hq52, teq_eq hq53, teq_eq hq54])⟩, Nat.sub_lt_sub_left hil (Nat.lt_succ_self i)⟩
 · have hend : i = la.length := Nat.le_antisymm hi (Nat.le_of_not_lt (of_decide_eq_false hf))
   exact W.run ha (W.sq (W.rg (WL.an rfl rfl (WL.nx (W.ret fun a ha => pR rfl ha rfl ⟨by rw [teq_all hle hend hall], h⟩)))))
theorem s40 {t u : T} : SEnc 40 (.list (.st .key)) t u := by
 intro w S cs ds hr hk
 obtain ⟨la, rfl⟩ := hr.is_list
 obtain ⟨lb, rfl⟩ := hk.is_list
 obtain ⟨ga, capa, hva, hmla, hgeta⟩ := list_at hr
 obtain ⟨gb, capb, hvb, hmlb, hgetb⟩ := list_at hk
 rw [hva, hvb]
 refine cW 56 Tryz.func40 rfl rfl rfl ?_
 refine W.sq (W.rg (WL.an rfl rfl (WL.nx ?_)))
 refine W.sq (W.sq (W.rg (WL.mv rfl rfl (WL.len rfl (lS Tryz.underlying30) rfl (WL.mv rfl rfl (WL.len rfl (lS Tryz.underlying30) rfl (WL.bi rfl rfl (run_neq (c := decide (la.length ≠ lb.length)) neq_cast) rfl (WL.nx (W.cond rfl (fun ht => ?_) (fun hf => W.skip fun a ha => tN ?_))))))))))
 · have hne : la.length ≠ lb.length := of_decide_eq_true ht
   refine W.sq (W.rg (WL.an rfl rfl (WL.nx (W.ret fun a ha => tR (pR rfl ha rfl ⟨by rw [teq_len hne], Fr.refl _ _⟩)))))
 have hle : la.length = lb.length := Classical.byContradiction (of_decide_eq_false hf)
 refine W.run ha (W.sq (W.sq (W.rg (WL.an rfl rfl (WL.nx ?_)))))
 refine W.bk (W.loop (ι := Nat × World) (fun i => [(0, .slice ga la.length capa), (1, .slice gb lb.length capb), (5, .int .i64 (i.1 : Int))]) (fun i w' => w' = i.2 ∧ i.1 ≤ la.length ∧ F0 w w' ∧ ∀ j, j < i.1 → la[j]? = lb[j]?) (fun i => la.length - i.1)
  (0, w) ⟨rfl, rfl, rfl, trivial⟩ ⟨rfl, Nat.zero_le _, Fr.refl _ _, fun j hj => absurd hj (Nat.not_lt_zero j)⟩ ?_)
 rintro ⟨i, _⟩ w1 ⟨rfl, hi, h, hall⟩
 simp only at hi h hall ⊢
 refine W.sq (W.sq (W.rg (WL.mv rfl rfl (WL.mv rfl rfl (WL.len rfl (lS Tryz.underlying30) rfl (WL.bi rfl rfl (run_lss (c := decide (i < la.length)) (decide_eq_decide.2 Int.ofNat_lt.symm)) rfl (WL.nx (W.cond rfl (fun ht => W.skip fun a ha => tN ?_) (fun hf => W.exit fun a ha => tE (tE (eH (tN ?_))))))))))))
 · have hil : i < la.length := of_decide_eq_true ht
   obtain ⟨ta, hta⟩ : ∃ t, la[i]? = some t := ⟨_, List.getElem?_eq_getElem hil⟩
   obtain ⟨tb, htb⟩ : ∃ t, lb[i]? = some t := ⟨_, List.getElem?_eq_getElem (hle ▸ hil)⟩
   have hwa := T.wt_mem (List.mem_of_getElem? hta)
   obtain ⟨ba, oa, da, hixa, _, hlta, hAa, ra⟩ := hgeta i ta hta
   obtain ⟨bb, ob, db, hixb, _, hltb, hAb, rb⟩ := hgetb i tb htb
   obtain ⟨fla, rfl, hlena, hFa⟩ := ra.st_inv
   obtain ⟨aa_0, fla, rfl, ra_0, hFa⟩ := hFa.cons_inv
   obtain ⟨aa_1, fla, rfl, ra_1, hFa⟩ := hFa.cons_inv
   obtain ⟨aa_2, fla, rfl, ra_2, hFa⟩ := hFa.cons_inv
   obtain rfl := hFa.nil_inv
   simp only [Nat.zero_add, Nat.reduceAdd, Ty.size, SN.size] at ra_0 ra_1 ra_2
   obtain ⟨flb, rfl, hlenb, hFb⟩ := rb.st_inv
   obtain ⟨ab_0, flb, rfl, rb_0, hFb⟩ := hFb.cons_inv
   obtain ⟨ab_1, flb, rfl, rb_1, hFb⟩ := hFb.cons_inv
   obtain ⟨ab_2, flb, rfl, rb_2, hFb⟩ := hFb.cons_inv
   obtain rfl := hFb.nil_inv
   simp only [Nat.zero_add, Nat.reduceAdd, Ty.size, SN.size] at rb_0 rb_1 rb_2
   refine W.run ha (W.sq (W.bk (W.sq (W.quiet (F0 w) mixed (by kernel_rfl) h.drawn ?_))))
   clear h
   refine QL.move rfl rfl (QL.move rfl rfl (QL.ix rfl rfl (fun w => hixa w Tryz.underlying30 iy76 rfl) rfl (QL.fa rfl (fun w => fld76_0 w _ _) rfl (QL.load rfl (fun w h => lR (f := .str) iy9 ra_0 (h.at_ hlta (hAa.sub 0 1))) rfl (QL.move rfl rfl (QL.move rfl rfl (QL.ix rfl rfl (fun w => hixb w Tryz.underlying30 iy76 rfl) rfl (QL.fa rfl (fun w => fld76_0 w _ _) rfl (QL.load rfl (fun w h => lR (f := .str) iy9 rb_0 (h.at_ hltb (hAb.sub 0 1))) rfl (?_))))))))))
   cases hq55 : teq aa_0 ab_0 with
   | false =>
    refine QL.binAny rfl rfl (neq9.guard ra_0 rb_0 _ _) (neq9.run' hq55 ra_0 rb_0) rfl ?_
    refine QL.skip _ _ _ rfl (QL.next fun w1 h => W.ct rfl ?_)
    exact W.sq (W.rg (WL.an rfl rfl (WL.nx (W.ret fun a ha => bR (tR (tR (bR (tR (pR rfl ha rfl ⟨by rw [teq_at hta htb (fun e => by cases e; exact teq_ne hq55 rfl)], h⟩)))))))))
   | true =>
    refine QL.binAny rfl rfl (neq9.guard ra_0 rb_0 _ _) (neq9.run' hq55 ra_0 rb_0) rfl (QL.move rfl rfl (QL.gd (j := 11) rfl rfl rfl (QL.move rfl rfl (QL.gd (j := 11) rfl rfl rfl (QL.move rfl rfl (QL.gd (j := 11) rfl rfl rfl (QL.ix rfl rfl (fun w => hixa w Tryz.underlying30 iy76 rfl) rfl (QL.gd (j := 11) rfl rfl rfl (QL.fa rfl (fun w => fld76_1 w _ _) rfl (QL.gd (j := 11) rfl rfl rfl (QL.load rfl (fun w h => lR (f := .list (.st .expr)) iy64 ra_1 (h.at_ hlta (hAa.sub 1 1))) rfl (QL.gd (j := 11) rfl rfl rfl (QL.move rfl rfl (QL.gd (j := 11) rfl rfl rfl (QL.move rfl rfl (QL.gd (j := 11) rfl rfl rfl (QL.ix rfl rfl (fun w => hixb w Tryz.underlying30 iy76 rfl) rfl (QL.gd (j := 11) rfl rfl rfl (QL.fa rfl (fun w => fld76_1 w _ _) rfl (QL.gd (j := 11) rfl rfl rfl (QL.load rfl (fun w h => lR (f := .list (.st .expr)) iy64 rb_1 (h.at_ hltb (hAb.sub 1 1))) rfl (?_))))))))))))))))))))))
    cases hq56 : teq aa_1 ab_1 with
    | false =>
     refine QL.gd (j := 11) rfl rfl rfl (QL.call Tryz.call90 rfl rfl (SEnc.quiet s90' hq56 ra_1 rb_1) (QL.gd (j := 11) rfl rfl rfl (QL.not rfl rfl ?_)))
     refine QL.skip _ _ _ rfl (QL.next fun w1 h => W.ct rfl ?_)
     exact W.sq (W.rg (WL.an rfl rfl (WL.nx (W.ret fun a ha => bR (tR (tR (bR (tR (pR rfl ha rfl ⟨by rw [teq_at hta htb (fun e => by cases e; exact teq_ne hq56 rfl)], h⟩)))))))))
    | true =>
     refine QL.gd (j := 11) rfl rfl rfl (QL.call Tryz.call90 rfl rfl (SEnc.quiet s90' hq56 ra_1 rb_1) (QL.gd (j := 11) rfl rfl rfl (QL.not rfl rfl (QL.pick rfl rfl rfl (QL.move rfl rfl (QL.gd (j := 25) rfl rfl rfl (QL.move rfl rfl (QL.gd (j := 25) rfl rfl rfl (QL.move rfl rfl (QL.gd (j := 25) rfl rfl rfl (QL.ix rfl rfl (fun w => hixa w Tryz.underlying30 iy76 rfl) rfl (QL.gd (j := 25) rfl rfl rfl (QL.fa rfl (fun w => fld76_2 w _ _) rfl (QL.gd (j := 25) rfl rfl rfl (QL.load rfl (fun w h => lR (f := .st .expr) iy66 ra_2 (h.at_ hlta (hAa.sub 2 16))) rfl (QL.gd (j := 25) rfl rfl rfl (QL.move rfl rfl (QL.gd (j := 25) rfl rfl rfl (QL.move rfl rfl (QL.gd (j := 25) rfl rfl rfl (QL.ix rfl rfl (fun w => hixb w Tryz.underlying30 iy76 rfl) rfl (QL.gd (j := 25) rfl rfl rfl (QL.fa rfl (fun w => fld76_2 w _ _) rfl (QL.gd (j := 25) rfl rfl rfl (QL.load rfl (fun w h => lR (f := .st .expr) iy66 rb_2 (h.at_ hltb (hAb.sub 2 16))) rfl (?_))))))))))))))))))))))))))
     cases hq57 : teq aa_2 ab_2 with
     | false =>
      refine QL.gd (j := 25) rfl rfl rfl (QL.call Tryz.call94 rfl rfl (SEnc.quiet (sX _ _) hq57 ra_2 rb_2) (QL.gd (j := 25) rfl rfl rfl (QL.not rfl rfl ?_)))
      refine QL.skip _ _ _ rfl (QL.next fun w1 h => W.ct rfl ?_)
      exact W.sq (W.rg (WL.an rfl rfl (WL.nx (W.ret fun a ha => bR (tR (tR (bR (tR (pR rfl ha rfl ⟨by rw [teq_at hta htb (fun e => by cases e; exact teq_ne hq57 rfl)], h⟩)))))))))
     | true =>
      refine QL.gd (j := 25) rfl rfl rfl (QL.call Tryz.call94 rfl rfl (SEnc.quiet (sX _ _) hq57 ra_2 rb_2) (QL.gd (j := 25) rfl rfl rfl (QL.not rfl rfl (QL.pick rfl rfl rfl (QL.next fun w1 h => W.cond_false rfl (W.skip fun a ha => bN (tN ?_)))))))
      refine W.run ha (W.rg (WL.mv rfl rfl (WL.bi rfl rfl rfl rfl (WL.an rfl rfl (WL.nil fun a ha => tN ?_)))))
      exact ⟨(i + 1, w1), ha.weak ⟨rfl, rfl, congrArg some (inc_i64 (lt_len hil hmla)), trivial⟩, ⟨rfl, hil, h, step_eq hall hta htb (by rw [teq_eq hq55, teq_eq hq56, teq_eq hq57])⟩, Nat.sub_lt_sub_left hil (Nat.lt_succ_self i)⟩
 · have hend : i = la.length := Nat.le_antisymm hi (Nat.le_of_not_lt (of_decide_eq_false hf))
   exact W.run ha (W.sq (W.rg (WL.an rfl rfl (WL.nx (W.ret fun a ha => pR rfl ha rfl ⟨by rw [teq_all hle hend hall], h⟩)))))
theorem s42 {t u : T} : SEnc 42 (.list (.st .output)) t u := by
 intro w S cs ds hr hk
 obtain ⟨la, rfl⟩ := hr.is_list
 obtain ⟨lb, rfl⟩ := hk.is_list
 obtain ⟨ga, capa, hva, hmla, hgeta⟩ := list_at hr
 obtain ⟨gb, capb, hvb, hmlb, hgetb⟩ := list_at hk
 rw [hva, hvb]
 refine cW 81 Tryz.func42 rfl rfl rfl ?_
 refine W.sq (W.rg (WL.an rfl rfl (WL.nx ?_)))
 refine W.sq (W.sq (W.rg (WL.mv rfl rfl (WL.len rfl (lS Tryz.underlying33) rfl (WL.mv rfl rfl (WL.len rfl (lS Tryz.underlying33) rfl (WL.bi rfl rfl (run_neq (c := decide (la.length ≠ lb.length)) neq_cast) rfl (WL.nx (W.cond rfl (fun ht => ?_) (fun hf => W.skip fun a ha => tN ?_))))))))))
 · have hne : la.length ≠ lb.length := of_decide_eq_true ht
   refine W.sq (W.rg (WL.an rfl rfl (WL.nx (W.ret fun a ha => tR (pR rfl ha rfl ⟨by rw [teq_len hne], Fr.refl _ _⟩)))))
 have hle : la.length = lb.length := Classical.byContradiction (of_decide_eq_false hf)
 refine W.run ha (W.sq (W.sq (W.rg (WL.an rfl rfl (WL.nx ?_)))))
 refine W.bk (W.loop (ι := Nat × World) (fun i => [(0, .slice ga la.length capa), (1, .slice gb lb.length capb), (5, .int .i64 (i.1 : Int))]) (fun i w' => w' = i.2 ∧ i.1 ≤ la.length ∧ F0 w w' ∧ ∀ j, j < i.1 → la[j]? = lb[j]?) (fun i => la.length - i.1)
  (0, w) ⟨rfl, rfl, rfl, trivial⟩ ⟨rfl, Nat.zero_le _, Fr.refl _ _, fun j hj => absurd hj (Nat.not_lt_zero j)⟩ ?_)
 rintro ⟨i, _⟩ w1 ⟨rfl, hi, h, hall⟩
 simp only at hi h hall ⊢
 refine W.sq (W.sq (W.rg (WL.mv rfl rfl (WL.mv rfl rfl (WL.len rfl (lS Tryz.underlying33) rfl (WL.bi rfl rfl (run_lss (c := decide (i < la.length)) (decide_eq_decide.2 Int.ofNat_lt.symm)) rfl (WL.nx (W.cond rfl (fun ht => W.skip fun a ha => tN ?_) (fun hf => W.exit fun a ha => tE (tE (eH (tN ?_))))))))))))
 · have hil : i < la.length := of_decide_eq_true ht
   obtain ⟨ta, hta⟩ : ∃ t, la[i]? = some t := ⟨_, List.getElem?_eq_getElem hil⟩
   obtain ⟨tb, htb⟩ : ∃ t, lb[i]? = some t := ⟨_, List.getElem?_eq_getElem (hle ▸ hil)⟩
   have hwa := T.wt_mem (List.mem_of_getElem? hta)
   obtain ⟨ba, oa, da, hixa, _, hlta, hAa, ra⟩ := hgeta i ta hta
   obtain ⟨bb, ob, db, hixb, _, hltb, hAb, rb⟩ := hgetb i tb htb
   obtain ⟨fla, rfl, hlena, hFa⟩ := ra.st_inv
   obtain ⟨aa_0, fla, rfl, ra_0, hFa⟩ := hFa.cons_inv
   obtain ⟨aa_1, fla, rfl, ra_1, hFa⟩ := hFa.cons_inv
   obtain ⟨aa_2, fla, rfl, ra_2, hFa⟩ := hFa.cons_inv
   obtain ⟨aa_3, fla, rfl, ra_3, hFa⟩ := hFa.cons_inv
   obtain ⟨aa_4, fla, rfl, ra_4, hFa⟩ := hFa.cons_inv
   obtain rfl := hFa.nil_inv
   simp only [Nat.zero_add, Nat.reduceAdd, Ty.size] at ra_0 ra_1 ra_2 ra_3 ra_4
   obtain ⟨flb, rfl, hlenb, hFb⟩ := rb.st_inv
   obtain ⟨ab_0, flb, rfl, rb_0, hFb⟩ := hFb.cons_inv
   obtain ⟨ab_1, flb, rfl, rb_1, hFb⟩ := hFb.cons_inv
   obtain ⟨ab_2, flb, rfl, rb_2, hFb⟩ := hFb.cons_inv
   obtain ⟨ab_3, flb, rfl, rb_3, hFb⟩ := hFb.cons_inv
   obtain ⟨ab_4, flb, rfl, rb_4, hFb⟩ := hFb.cons_inv
   obtain rfl := hFb.nil_inv
   simp only [Nat.zero_add, Nat.reduceAdd, Ty.size] at rb_0 rb_1 rb_2 rb_3 rb_4
   refine W.run ha (W.sq (W.bk (W.sq (W.quiet (F0 w) mixed (by kernel_rfl) h.drawn ?_))))
   clear h
   refine QL.move rfl rfl (QL.move rfl rfl (QL.ix rfl rfl (fun w => hixa w Tryz.underlying33 iy157 rfl) rfl (QL.fa rfl (fun w => fld157_0 w _ _) rfl (QL.load rfl (fun w h => lR (f := .str) iy9 ra_0 (h.at_ hlta (hAa.sub 0 1))) rfl (QL.move rfl rfl (QL.move rfl rfl (QL.ix rfl rfl (fun w => hixb w Tryz.underlying33 iy157 rfl) rfl (QL.fa rfl (fun w => fld157_0 w _ _) rfl (QL.load rfl (fun w h => lR (f := .str) iy9 rb_0 (h.at_ hltb (hAb.sub 0 1))) rfl (?_))))))))))
   cases hq58 : teq aa_0 ab_0 with
   | false =>
    refine QL.binAny rfl rfl (neq9.guard ra_0 rb_0 _ _) (neq9.run' hq58 ra_0 rb_0) rfl ?_
    refine QL.skip _ _ _ rfl (QL.next fun w1 h => W.ct rfl ?_)
    exact W.sq (W.rg (WL.an rfl rfl (WL.nx (W.ret fun a ha => bR (tR (tR (bR (tR (pR rfl ha rfl ⟨by rw [teq_at hta htb (fun e => by cases e; exact teq_ne hq58 rfl)], h⟩)))))))))
   | true =>
    refine QL.binAny rfl rfl (neq9.guard ra_0 rb_0 _ _) (neq9.run' hq58 ra_0 rb_0) rfl (QL.move rfl rfl (QL.gd (j := 11) rfl rfl rfl (QL.move rfl rfl (QL.gd (j := 11) rfl rfl rfl (QL.move rfl rfl (QL.gd (j := 11) rfl rfl rfl (QL.ix rfl rfl (fun w => hixa w Tryz.underlying33 iy157 rfl) rfl (QL.gd (j := 11) rfl rfl rfl (QL.fa rfl (fun w => fld157_1 w _ _) rfl (QL.gd (j := 11) rfl rfl rfl (QL.load rfl (fun w h => lR (f := .str) iy9 ra_1 (h.at_ hlta (hAa.sub 1 1))) rfl (QL.gd (j := 11) rfl rfl rfl (QL.move rfl rfl (QL.gd (j := 11) rfl rfl rfl (QL.move rfl rfl (QL.gd (j := 11) rfl rfl rfl (QL.ix rfl rfl (fun w => hixb w Tryz.underlying33 iy157 rfl) rfl (QL.gd (j := 11) rfl rfl rfl (QL.fa rfl (fun w => fld157_1 w _ _) rfl (QL.gd (j := 11) rfl rfl rfl (QL.load rfl (fun w h => lR (f := .str) iy9 rb_1 (h.at_ hltb (hAb.sub 1 1))) rfl (?_))))))))))))))))))))))
    cases hq59 : teq aa_1 ab_1 with
    | false =>
     refine QL.gd (j := 11) rfl rfl rfl (QL.binAny rfl rfl (neq9.guard ra_1 rb_1 _ _) (neq9.run' hq59 ra_1 rb_1) rfl ?_)
     refine QL.skip _ _ _ rfl (QL.next fun w1 h => W.ct rfl ?_)
     exact W.sq (W.rg (WL.an rfl rfl (WL.nx (W.ret fun a ha => bR (tR (tR (bR (tR (pR rfl ha rfl ⟨by rw [teq_at hta htb (fun e => by cases e; exact teq_ne hq59 rfl)], h⟩)))))))))
    | true =>
     refine QL.gd (j := 11) rfl rfl rfl (QL.binAny rfl rfl (neq9.guard ra_1 rb_1 _ _) (neq9.run' hq59 ra_1 rb_1) rfl (QL.pick rfl rfl rfl (QL.move rfl rfl (QL.gd (j := 24) rfl rfl rfl (QL.move rfl rfl (QL.gd (j := 24) rfl rfl rfl (QL.move rfl rfl (QL.gd (j := 24) rfl rfl rfl (QL.ix rfl rfl (fun w => hixa w Tryz.underlying33 iy157 rfl) rfl (QL.gd (j := 24) rfl rfl rfl (QL.fa rfl (fun w => fld157_2 w _ _) rfl (QL.gd (j := 24) rfl rfl rfl (QL.load rfl (fun w h => lR (f := .bool) iy4 ra_2 (h.at_ hlta (hAa.sub 2 1))) rfl (QL.gd (j := 24) rfl rfl rfl (QL.move rfl rfl (QL.gd (j := 24) rfl rfl rfl (QL.move rfl rfl (QL.gd (j := 24) rfl rfl rfl (QL.ix rfl rfl (fun w => hixb w Tryz.underlying33 iy157 rfl) rfl (QL.gd (j := 24) rfl rfl rfl (QL.fa rfl (fun w => fld157_2 w _ _) rfl (QL.gd (j := 24) rfl rfl rfl (QL.load rfl (fun w h => lR (f := .bool) iy4 rb_2 (h.at_ hltb (hAb.sub 2 1))) rfl (?_))))))))))))))))))))))))
     cases hq60 : teq aa_2 ab_2 with
     | false =>
      refine QL.gd (j := 24) rfl rfl rfl (QL.binAny rfl rfl (neq4.guard ra_2 rb_2 _ _) (neq4.run' hq60 ra_2 rb_2) rfl ?_)
      refine QL.skip _ _ _ rfl (QL.next fun w1 h => W.ct rfl ?_)
      exact W.sq (W.rg (WL.an rfl rfl (WL.nx (W.ret fun a ha => bR (tR (tR (bR (tR (pR rfl ha rfl ⟨by rw [teq_at hta htb (fun e => by cases e; exact teq_ne hq60 rfl)], h⟩)))))))))
     | true =>
      refine QL.gd (j := 24) rfl rfl rfl (QL.binAny rfl rfl (neq4.guard ra_2 rb_2 _ _) (neq4.run' hq60 ra_2 rb_2) rfl (QL.pick rfl rfl rfl (QL.move rfl rfl (QL.gd (j := 37) rfl rfl rfl (QL.move rfl rfl (QL.gd (j := 37) rfl rfl rfl (QL.move rfl rfl (QL.gd (j := 37) rfl rfl rfl (QL.ix rfl rfl (fun w => hixa w Tryz.underlying33 iy157 rfl) rfl (QL.gd (j := 37) rfl rfl rfl (QL.fa rfl (fun w => fld157_3 w _ _) rfl (QL.gd (j := 37) rfl rfl rfl (QL.load rfl (fun w h => lR (f := .bool) iy4 ra_3 (h.at_ hlta (hAa.sub 3 1))) rfl (QL.gd (j := 37) rfl rfl rfl (QL.move rfl rfl (QL.gd (j := 37) rfl rfl rfl (QL.move rfl rfl (QL.gd (j := 37) rfl rfl rfl (QL.ix rfl rfl (fun w => hixb w Tryz.underlying33 iy157 rfl) rfl (QL.gd (j := 37) rfl rfl rfl (QL.fa rfl (fun w => fld157_3 w _ _) rfl (QL.gd (j := 37) rfl rfl rfl (QL.load rfl (fun w h => lR (f := .bool) iy4 rb_3 (h.at_ hltb (hAb.sub 3 1))) rfl (?_))))))))))))))))))))))))
      cases hq61 : teq aa_3 ab_3 with
      | false =>
       refine QL.gd (j := 37) rfl rfl rfl (QL.binAny rfl rfl (neq4.guard ra_3 rb_3 _ _) (neq4.run' hq61 ra_3 rb_3) rfl ?_)
       refine QL.skip _ _ _ rfl (QL.next fun w1 h => W.ct rfl ?_)
       exact W.sq (W.rg (WL.an rfl rfl (WL.nx (W.ret fun a ha => bR (tR (tR (bR (tR (pR rfl ha rfl ⟨by rw [teq_at hta htb (fun e => by cases e; exact teq_ne hq61 rfl)], h⟩)))))))))
      | true =>
       refine QL.gd (j := 37) rfl rfl rfl (QL.binAny rfl rfl (neq4.guard ra_3 rb_3 _ _) (neq4.run' hq61 ra_3 rb_3) rfl (QL.pick rfl rfl rfl (QL.move rfl rfl (QL.gd (j := 50) rfl rfl rfl (QL.move rfl rfl (QL.gd (j := 50) rfl rfl rfl (QL.move rfl rfl (QL.gd (j := 50) rfl rfl rfl (QL.ix rfl rfl (fun w => hixa w Tryz.underlying33 iy157 rfl) rfl (QL.gd (j := 50) rfl rfl rfl (QL.fa rfl (fun w => fld157_4 w _ _) rfl (QL.gd (j := 50) rfl rfl rfl (QL.load rfl (fun w h => lR (f := .list (.str)) iy44 ra_4 (h.at_ hlta (hAa.sub 4 1))) rfl (QL.gd (j := 50) rfl rfl rfl (QL.move rfl rfl (QL.gd (j := 50) rfl rfl rfl (QL.move rfl rfl (QL.gd (j := 50) rfl rfl rfl (QL.ix rfl rfl (fun w => hixb w Tryz.underlying33 iy157 rfl) rfl (QL.gd (j := 50) rfl rfl rfl (QL.fa rfl (fun w => fld157_4 w _ _) rfl (QL.gd (j := 50) rfl rfl rfl (QL.load rfl (fun w h => lR (f := .list (.str)) iy44 rb_4 (h.at_ hltb (hAb.sub 4 1))) rfl (?_))))))))))))))))))))))))
       cases hq62 : teq aa_4 ab_4 with
       | false =>
        refine QL.gd (j := 50) rfl rfl rfl (QL.call Tryz.call91 rfl rfl (SEnc.quiet s91 hq62 ra_4 rb_4) (QL.gd (j := 50) rfl rfl rfl (QL.not rfl rfl ?_)))
        refine QL.skip _ _ _ rfl (QL.next fun w1 h => W.ct rfl ?_)
        exact W.sq (W.rg (WL.an rfl rfl (WL.nx (W.ret fun a ha => bR (tR (tR (bR (tR (pR rfl ha rfl ⟨by rw [teq_at hta htb (fun e => by cases e; exact teq_ne hq62 rfl)], h⟩)))))))))
       | true =>
        refine QL.gd (j := 50) rfl rfl rfl (QL.call Tryz.call91 rfl rfl (SEnc.quiet s91 hq62 ra_4 rb_4) (QL.gd (j := 50) rfl rfl rfl (QL.not rfl rfl (QL.pick rfl rfl rfl (QL.next fun w1 h => W.cond_false rfl (W.skip fun a ha => bN (tN ?_)))))))
        refine W.run ha (W.rg (WL.mv rfl rfl (WL.bi rfl rfl rfl rfl (WL.an rfl rfl (WL.nil fun a ha => tN ?_)))))
        exact ⟨(i + 1, w1), ha.weak ⟨rfl, rfl, congrArg some (inc_i64 (lt_len hil hmla)), trivial⟩, ⟨rfl, hil, h, step_eq hall hta htb (by rw [teq_eq hq58, teq_eq hq59, teq_eq hq60, teq_eq hq61, teq_eq hq62])⟩, Nat.sub_lt_sub_left hil (Nat.lt_succ_self i)⟩
 · have hend : i = la.length := Nat.le_antisymm hi (Nat.le_of_not_lt (of_decide_eq_false hf))
   exact W.run ha (W.sq (W.rg (WL.an rfl rfl (WL.nx (W.ret fun a ha => pR rfl ha rfl ⟨by rw [teq_all hle hend hall], h⟩)))))
end Go.Sx
