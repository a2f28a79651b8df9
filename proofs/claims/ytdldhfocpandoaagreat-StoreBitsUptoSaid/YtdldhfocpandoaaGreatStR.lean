import Derived.Test.YtdldhfocpandoaaGreatStQ
import Derived.Test.YtdldhfocpandoaaGreatStI
namespace Go.Sx
open Go.Proofs
theorem eg84 : Tryz.prog.eqGuardType Tryz.prog.depth 84 = false := by kernel_rfl
theorem si84 : Tryz.prog.stoodInHeld 84 = false := by kernel_rfl
theorem part4 {w : World} {xs : Array Value} {i : Nat} {v : Value} (h : xs[i]? = some v) : (part 4 xs i).run Tryz.prog w = .ok v w := by
 simp [part, Tryz.isAgg4, h]
theorem eq_int' {w : World} {d : Nat} {a b : Int} : (Op.equalIn (d + 1) 3 (.int .i64 a) (.int .i64 b)).run Tryz.prog w = .ok (decide (a = b)) w := by
 rw [eq_int]; congr 1
def modeV (a c : ByteArray) (e g : Bool) (i : ByteArray) (k : Int) : Array Value := #[.string a, .string c, .bool e, .bool g, .string i, .int .i64 k]
theorem eq_mode {w : World} {d : Nat} {a b c c' i j : ByteArray} {e e' g g' : Bool} {k k' : Int} :
 (Op.equalIn (d + 2) 84 (.agg (modeV a c e g i k)) (.agg (modeV b c' e' g' j k'))).run Tryz.prog w = .ok (decide (a = b) && (decide (c = c') && ((e == e') && ((g == g') && (decide (i = j) && decide (k = k')))))) w := by
 have p0 : ∀ a c e g i k (w : World), (part 9 (modeV a c e g i k) 0).run Tryz.prog w = .ok (.string a) w := fun _ _ _ _ _ _ w => part9 rfl
 have p1 : ∀ a c e g i k (w : World), (part 9 (modeV a c e g i k) 1).run Tryz.prog w = .ok (.string c) w := fun _ _ _ _ _ _ w => part9 rfl
 have p2 : ∀ a c e g i k (w : World), (part 4 (modeV a c e g i k) 2).run Tryz.prog w = .ok (.bool e) w := fun _ _ _ _ _ _ w => part4 rfl
 have p3 : ∀ a c e g i k (w : World), (part 4 (modeV a c e g i k) 3).run Tryz.prog w = .ok (.bool g) w := fun _ _ _ _ _ _ w => part4 rfl
 have p4 : ∀ a c e g i k (w : World), (part 9 (modeV a c e g i k) 4).run Tryz.prog w = .ok (.string i) w := fun _ _ _ _ _ _ w => part9 rfl
 have p5 : ∀ a c e g i k (w : World), (part 3 (modeV a c e g i k) 5).run Tryz.prog w = .ok (.int .i64 k) w := fun _ _ _ _ _ _ w => part3 rfl
 rw [show d + 2 = (d + 1) + 1 from rfl]
 unfold Op.equalIn
 generalize hx1 : decide (a = b) = x1
 generalize hx2 : decide (c = c') = x2
 generalize hx3 : (e == e') = x3
 generalize hx4 : (g == g') = x4
 generalize hx5 : decide (i = j) = x5
 generalize hx6 : decide (k = k') = x6
 have q1 : ∀ (w : World), (Op.equalIn (d + 1) 9 (.string a) (.string b)).run Tryz.prog w = .ok x1 w := fun w => by rw [eq_str, hx1]
 have q2 : ∀ (w : World), (Op.equalIn (d + 1) 9 (.string c) (.string c')).run Tryz.prog w = .ok x2 w := fun w => by rw [eq_str, hx2]
 have q3 : ∀ (w : World), (Op.equalIn (d + 1) 4 (.bool e) (.bool e')).run Tryz.prog w = .ok x3 w := fun w => by rw [eq_bool, hx3]
 have q4 : ∀ (w : World), (Op.equalIn (d + 1) 4 (.bool g) (.bool g')).run Tryz.prog w = .ok x4 w := fun w => by rw [eq_bool, hx4]
 have q5 : ∀ (w : World), (Op.equalIn (d + 1) 9 (.string i) (.string j)).run Tryz.prog w = .ok x5 w := fun w => by rw [eq_str, hx5]
 have q6 : ∀ (w : World), (Op.equalIn (d + 1) 3 (.int .i64 k) (.int .i64 k')).run Tryz.prog w = .ok x6 w := fun w => by rw [eq_int', hx6]
 clear hx1 hx2 hx3 hx4 hx5 hx6
 cases x1
 · simp [Tryz.runUnderlying84, p0, q1]
 cases x2
 · simp [Tryz.runUnderlying84, p0, p1, q1, q2]
 cases x3
 · simp [Tryz.runUnderlying84, p0, p1, p2, q1, q2, q3]
 cases x4
 · simp [Tryz.runUnderlying84, p0, p1, p2, p3, q1, q2, q3, q4]
 cases x5
 · simp [Tryz.runUnderlying84, p0, p1, p2, p3, p4, q1, q2, q3, q4, q5]
 cases x6
 · simp [Tryz.runUnderlying84, p0, p1, p2, p3, p4, p5, q1, q2, q3, q4, q5, q6]
 · simp [Tryz.runUnderlying84, p0, p1, p2, p3, p4, p5, q1, q2, q3, q4, q5, q6]
theorem mode_inv {w : World} {S : Nat → Prop} {t : T} {cs : List Value} (h : Rep w S t (.st .mode) cs) :
 ∃ a c e g i k, t = .agg .mode [.str a, .str c, .bool e, .bool g, .str i, .int k] ∧ cs.toArray = modeV a c e g i k := by
 obtain ⟨l, rfl, hl, hF⟩ := h.st_inv
 obtain ⟨t0, l, rfl, r0, hF⟩ := hF.cons_inv
 obtain ⟨t1, l, rfl, r1, hF⟩ := hF.cons_inv
 obtain ⟨t2, l, rfl, r2, hF⟩ := hF.cons_inv
 obtain ⟨t3, l, rfl, r3, hF⟩ := hF.cons_inv
 obtain ⟨t4, l, rfl, r4, hF⟩ := hF.cons_inv
 obtain ⟨t5, l, rfl, r5, hF⟩ := hF.cons_inv
 obtain rfl := hF.nil_inv
 obtain ⟨x0, x1, x2, x3, x4, x5, rfl⟩ : ∃ x0 x1 x2 x3 x4 x5, cs = [x0, x1, x2, x3, x4, x5] := by
  match cs, hl with
  | [x0, x1, x2, x3, x4, x5], _ => exact ⟨x0, x1, x2, x3, x4, x5, rfl⟩
 simp only [Nat.zero_add, Nat.reduceAdd, Ty.size, List.drop_zero, List.drop_succ_cons, List.take_succ_cons, List.take_zero] at r0 r1 r2 r3 r4 r5
 obtain ⟨a, rfl, e0, _⟩ := r0.str_inv
 obtain ⟨c, rfl, e1, _⟩ := r1.str_inv
 obtain ⟨e, rfl, e2⟩ := r2.bool_inv
 obtain ⟨g, rfl, e3⟩ := r3.bool_inv
 obtain ⟨i, rfl, e4, _⟩ := r4.str_inv
 obtain ⟨k, rfl, e5, _⟩ := r5.int_inv
 cases e0; cases e1; cases e2; cases e3; cases e4; cases e5
 exact ⟨a, c, e, g, i, k, rfl, rfl⟩
theorem neq84 : Neq 84 (.st .mode) := by
 refine ⟨fun h k x y w => ?_, fun h k w => ?_⟩
 · exact guard_agg eg84
 · obtain ⟨a, c, e, g, i, n, rfl, hc⟩ := mode_inv h
   obtain ⟨a', c', e', g', i', n', rfl, hc'⟩ := mode_inv k
   rw [teq_of (c := decide (a = a') && (decide (c = c') && ((e == e') && ((g == g') && (decide (i = i') && decide (n = n')))))) (by simp)]
   show (binOp .neq 84 (.agg _) (.agg _)).run Tryz.prog w = _
   rw [hc, hc']
   exact neq_of_equal (eq_mode (d := 9998))
end Go.Sx
namespace Go.Sx
open Go.Proofs
set_option maxHeartbeats 1000000 in
theorem s43 {t u : T} : SEnc 43 (.list (.st .charMap)) t u := by
 intro w S cs ds hr hk
 obtain ⟨la, rfl⟩ := hr.is_list
 obtain ⟨lb, rfl⟩ := hk.is_list
 obtain ⟨ga, capa, hva, hmla, hgeta⟩ := list_at hr
 obtain ⟨gb, capb, hvb, hmlb, hgetb⟩ := list_at hk
 rw [hva, hvb]
 refine cW 71 Tryz.func43 rfl rfl rfl ?_
 refine W.sq (W.rg (WL.an rfl rfl (WL.nx ?_)))
 refine W.sq (W.sq (W.rg (WL.mv rfl rfl (WL.len rfl (lS Tryz.underlying34) rfl (WL.mv rfl rfl (WL.len rfl (lS Tryz.underlying34) rfl (WL.bi rfl rfl (run_neq (c := decide (la.length ≠ lb.length)) neq_cast) rfl (WL.nx (W.cond rfl (fun ht => ?_) (fun hf => W.skip fun a ha => tN ?_))))))))))
 · have hne : la.length ≠ lb.length := of_decide_eq_true ht
   refine W.sq (W.rg (WL.an rfl rfl (WL.nx (W.ret fun a ha => tR (pR rfl ha rfl ⟨by rw [teq_len hne], Fr.refl _ _⟩)))))
 have hle : la.length = lb.length := Classical.byContradiction (of_decide_eq_false hf)
 refine W.run ha (W.sq (W.sq (W.rg (WL.an rfl rfl (WL.nx ?_)))))
 refine W.bk (W.loop (ι := Nat × World) (fun i => [(0, .slice ga la.length capa), (1, .slice gb lb.length capb), (5, .int .i64 (i.1 : Int))]) (fun i w' => w' = i.2 ∧ i.1 ≤ la.length ∧ F0 w w' ∧ ∀ j, j < i.1 → la[j]? = lb[j]?) (fun i => la.length - i.1)
  (0, w) ⟨rfl, rfl, rfl, trivial⟩ ⟨rfl, Nat.zero_le _, Fr.refl _ _, fun j hj => absurd hj (Nat.not_lt_zero j)⟩ ?_)
 rintro ⟨i, _⟩ w1 ⟨rfl, hi, h, hall⟩
 simp only at hi h hall ⊢
 refine W.sq (W.sq (W.rg (WL.mv rfl rfl (WL.mv rfl rfl (WL.len rfl (lS Tryz.underlying34) rfl (WL.bi rfl rfl (run_lss (c := decide (i < la.length)) (decide_eq_decide.2 Int.ofNat_lt.symm)) rfl (WL.nx (W.cond rfl (fun ht => W.skip fun a ha => tN ?_) (fun hf => W.exit fun a ha => tE (tE (eH (tN ?_))))))))))))
 · have hil : i < la.length := of_decide_eq_true ht
   obtain ⟨ta, hta⟩ : ∃ t, la[i]? = some t := ⟨_, List.getElem?_eq_getElem hil⟩
   obtain ⟨tb, htb⟩ : ∃ t, lb[i]? = some t := ⟨_, List.getElem?_eq_getElem (hle ▸ hil)⟩
   obtain ⟨ba, oa, da, hixa, _, hlta, hAa, ra⟩ := hgeta i ta hta
   obtain ⟨bb, ob, db, hixb, _, hltb, hAb, rb⟩ := hgetb i tb htb
   obtain ⟨fla, rfl, hlena, hFa⟩ := ra.st_inv
   obtain ⟨aa_0, fla, rfl, ra_0, hFa⟩ := hFa.cons_inv
   obtain ⟨aa_1, fla, rfl, ra_1, hFa⟩ := hFa.cons_inv
   obtain rfl := hFa.nil_inv
   simp only [Nat.zero_add, Ty.size] at ra_0 ra_1
   obtain ⟨flb, rfl, hlenb, hFb⟩ := rb.st_inv
   obtain ⟨ab_0, flb, rfl, rb_0, hFb⟩ := hFb.cons_inv
   obtain ⟨ab_1, flb, rfl, rb_1, hFb⟩ := hFb.cons_inv
   obtain rfl := hFb.nil_inv
   simp only [Nat.zero_add, Ty.size] at rb_0 rb_1
   obtain ⟨ma, rfl⟩ := ra_1.is_list
   obtain ⟨mb, rfl⟩ := rb_1.is_list
   obtain ⟨ha', capa', hva', hmla', hgeta'⟩ := list_at ra_1
   obtain ⟨hb', capb', hvb', hmlb', hgetb'⟩ := list_at rb_1
   refine W.run ha (W.sq (W.bk (W.sq (W.sq (W.quiet (F0 w) mixed (by kernel_rfl) h.drawn ?_)))))
   clear h
   refine QL.move rfl rfl (QL.move rfl rfl (QL.ix rfl rfl (fun w => hixa w Tryz.underlying34 iy162 rfl) rfl (QL.fa rfl (fun w => fld162_0 w _ _) rfl (QL.load rfl (fun w h => lR (f := .str) iy9 ra_0 (h.at_ hlta (hAa.sub 0 1))) rfl (QL.move rfl rfl (QL.move rfl rfl (QL.ix rfl rfl (fun w => hixb w Tryz.underlying34 iy162 rfl) rfl (QL.fa rfl (fun w => fld162_0 w _ _) rfl (QL.load rfl (fun w h => lR (f := .str) iy9 rb_0 (h.at_ hltb (hAb.sub 0 1))) rfl (?_))))))))))
   cases hq1 : teq aa_0 ab_0 with
   | false =>
    refine QL.binAny rfl rfl (neq9.guard ra_0 rb_0 _ _) (neq9.run' hq1 ra_0 rb_0) rfl ?_
    refine QL.skip _ _ _ rfl (QL.next fun w1 h => W.ct rfl ?_)
    exact W.sq (W.rg (WL.an rfl rfl (WL.nx (W.ret fun a ha => tR (bR (tR (tR (bR (tR (pR rfl ha rfl ⟨by rw [teq_at hta htb (fun e => by cases e; exact teq_ne hq1 rfl)], h⟩))))))))))
   | true =>
    refine QL.binAny rfl rfl (neq9.guard ra_0 rb_0 _ _) (neq9.run' hq1 ra_0 rb_0) rfl ?_
    refine QL.move rfl rfl (QL.gd (j := 11) rfl rfl rfl (QL.move rfl rfl (QL.gd (j := 11) rfl rfl rfl (QL.move rfl rfl (QL.gd (j := 11) rfl rfl rfl (QL.ix rfl rfl (fun w => hixa w Tryz.underlying34 iy162 rfl) rfl (QL.gd (j := 11) rfl rfl rfl (QL.fa rfl (fun w => fld162_1 w _ _) rfl ?_))))))))
    refine QL.gd (j := 11) rfl rfl rfl (QL.load (v := .slice ha' ma.length capa') rfl (fun w h => by rw [← hva']; exact lR (f := .list (.st .swap)) iy160 ra_1 (h.at_ hlta (hAa.sub 1 1))) rfl (QL.gd (j := 11) rfl rfl rfl (QL.len rfl (fun w => lS Tryz.underlying160) rfl ?_)))
    refine QL.gd (j := 11) rfl rfl rfl (QL.move rfl rfl (QL.gd (j := 11) rfl rfl rfl (QL.move rfl rfl (QL.gd (j := 11) rfl rfl rfl (QL.ix rfl rfl (fun w => hixb w Tryz.underlying34 iy162 rfl) rfl (QL.gd (j := 11) rfl rfl rfl (QL.fa rfl (fun w => fld162_1 w _ _) rfl ?_)))))))
    refine QL.gd (j := 11) rfl rfl rfl (QL.load (v := .slice hb' mb.length capb') rfl (fun w h => by rw [← hvb']; exact lR (f := .list (.st .swap)) iy160 rb_1 (h.at_ hltb (hAb.sub 1 1))) rfl (QL.gd (j := 11) rfl rfl rfl (QL.len rfl (fun w => lS Tryz.underlying160) rfl ?_)))
    cases hq2 : decide (ma.length ≠ mb.length) with
    | true =>
     refine QL.gd (j := 11) rfl rfl rfl (QL.binInt rfl rfl (fun w => by rw [run_neq (c := decide (ma.length ≠ mb.length)) neq_cast, hq2]) rfl (QL.pick rfl rfl rfl (QL.next fun w1 h => W.ct rfl ?_)))
     exact W.sq (W.rg (WL.an rfl rfl (WL.nx (W.ret fun a ha => tR (bR (tR (tR (bR (tR (pR rfl ha rfl ⟨by rw [teq_at hta htb (fun e => by cases e; exact of_decide_eq_true hq2 rfl)], h⟩))))))))))
    | false =>
     have hml : ma.length = mb.length := Classical.byContradiction (of_decide_eq_false hq2)
     refine QL.gd (j := 11) rfl rfl rfl (QL.binInt rfl rfl (fun w => by rw [run_neq (c := decide (ma.length ≠ mb.length)) neq_cast, hq2]) rfl (QL.pick rfl rfl rfl (QL.next fun w1 h => W.cond_false rfl (W.skip fun a ha => tN ?_))))
     refine W.run ha (W.sq (W.rg (WL.an rfl rfl (WL.nx ?_))))
     refine W.bk (W.loop (ι := Nat × World) (fun j => [(0, .slice ga la.length capa), (1, .slice gb lb.length capb), (5, .int .i64 (i : Int)), (6, .int .i64 (j.1 : Int))]) (fun j w' => w' = j.2 ∧ j.1 ≤ ma.length ∧ F0 w w' ∧ ∀ k, k < j.1 → ma[k]? = mb[k]?) (fun j => ma.length - j.1)
      (0, w1) ⟨rfl, rfl, rfl, rfl, trivial⟩ ⟨rfl, Nat.zero_le _, h, fun k hk => absurd hk (Nat.not_lt_zero k)⟩ ?_)
     clear h
     rintro ⟨j, _⟩ w2 ⟨rfl, hj, h, hall'⟩
     simp only at hj h hall' ⊢
     refine W.sq (W.sq (W.rg (WL.mv rfl rfl (WL.mv rfl rfl (WL.mv rfl rfl (WL.ix rfl rfl (hixa _ Tryz.underlying34 iy162 rfl) rfl (WL.fa rfl (fld162_1 _ _ _) rfl ?_)))))))
     refine WL.ld (v := .slice ha' ma.length capa') rfl (by rw [← hva']; exact lR (f := .list (.st .swap)) iy160 ra_1 (h.at_ hlta (hAa.sub 1 1))) rfl ?_
     refine WL.len rfl (lS Tryz.underlying160) rfl (WL.bi rfl rfl (run_lss (c := decide (j < ma.length)) (decide_eq_decide.2 Int.ofNat_lt.symm)) rfl (WL.nx (W.cond rfl (fun ht => W.skip fun a ha => tN ?_) (fun hf => W.exit fun a ha => tE (tE (eH (bN (tN ?_))))))))
     · have hjl : j < ma.length := of_decide_eq_true ht
       obtain ⟨sa, hsa⟩ : ∃ t, ma[j]? = some t := ⟨_, List.getElem?_eq_getElem hjl⟩
       obtain ⟨sb, hsb⟩ : ∃ t, mb[j]? = some t := ⟨_, List.getElem?_eq_getElem (hml ▸ hjl)⟩
       obtain ⟨bsa, osa, dsa, hixsa, _, hltsa, hAsa, rsa⟩ := hgeta' j sa hsa
       obtain ⟨bsb, osb, dsb, hixsb, _, hltsb, hAsb, rsb⟩ := hgetb' j sb hsb
       refine W.run ha (W.sq (W.bk (W.sq (W.quiet (F0 w) mixed (by kernel_rfl) h.drawn ?_))))
       clear h
       refine QL.move rfl rfl (QL.move rfl rfl (QL.ix rfl rfl (fun w => hixa w Tryz.underlying34 iy162 rfl) rfl (QL.fa rfl (fun w => fld162_1 w _ _) rfl ?_)))
       refine QL.load (v := .slice ha' ma.length capa') rfl (fun w h => by rw [← hva']; exact lR (f := .list (.st .swap)) iy160 ra_1 (h.at_ hlta (hAa.sub 1 1))) rfl ?_
       refine QL.move rfl rfl (QL.ix rfl rfl (fun w => hixsa w Tryz.underlying160 iy170 rfl) rfl (QL.load rfl (fun w h => lR (f := .st .swap) iy170 rsa (h.at_ hltsa hAsa)) rfl ?_))
       refine QL.move rfl rfl (QL.move rfl rfl (QL.ix rfl rfl (fun w => hixb w Tryz.underlying34 iy162 rfl) rfl (QL.fa rfl (fun w => fld162_1 w _ _) rfl ?_)))
       refine QL.load (v := .slice hb' mb.length capb') rfl (fun w h => by rw [← hvb']; exact lR (f := .list (.st .swap)) iy160 rb_1 (h.at_ hltb (hAb.sub 1 1))) rfl ?_
       refine QL.move rfl rfl (QL.ix rfl rfl (fun w => hixsb w Tryz.underlying160 iy170 rfl) rfl (QL.load rfl (fun w h => lR (f := .st .swap) iy170 rsb (h.at_ hltsb hAsb)) rfl ?_))
       cases hq3 : teq sa sb with
       | false =>
        refine QL.binAny rfl rfl (neq170.guard rsa rsb _ _) (neq170.run' hq3 rsa rsb) rfl ?_
        refine QL.skip _ _ _ rfl (QL.next fun w1 h => W.ct rfl ?_)
        exact W.sq (W.rg (WL.an rfl rfl (WL.nx (W.ret fun a ha => bR (tR (tR (bR (bR (tR (tR (bR (tR (pR rfl ha rfl ⟨by rw [teq_at hta htb (fun e => by cases e; exact teq_ne hq3 (Option.some.inj (hsa.symm.trans hsb)))], h⟩)))))))))))))
       | true =>
        refine QL.binAny rfl rfl (neq170.guard rsa rsb _ _) (neq170.run' hq3 rsa rsb) rfl ?_
        refine QL.next fun w2 h => W.cond_false rfl (W.skip fun a ha => bN (tN ?_))
        refine W.run ha (W.rg (WL.mv rfl rfl (WL.bi rfl rfl rfl rfl (WL.an rfl rfl (WL.nil fun a ha => tN ?_)))))
        exact ⟨(j + 1, w2), ha.weak ⟨rfl, rfl, rfl, congrArg some (inc_i64 (lt_len hjl hmla')), trivial⟩, ⟨rfl, hjl, h, step_eq hall' hsa hsb (teq_eq hq3)⟩, Nat.sub_lt_sub_left hjl (Nat.lt_succ_self j)⟩
     · have hend : j = ma.length := Nat.le_antisymm hj (Nat.le_of_not_lt (of_decide_eq_false hf))
       refine W.run ha (W.rg (WL.mv rfl rfl (WL.bi rfl rfl rfl rfl (WL.an rfl rfl (WL.nil fun a ha => tN ?_)))))
       exact ⟨(i + 1, w2), ha.weak ⟨rfl, rfl, congrArg some (inc_i64 (lt_len hil hmla)), trivial⟩, ⟨rfl, hil, h, step_eq hall hta htb (by rw [teq_eq hq1, teq_eq (teq_all hml hend hall')])⟩, Nat.sub_lt_sub_left hil (Nat.lt_succ_self i)⟩
 · have hend : i = la.length := Nat.le_antisymm hi (Nat.le_of_not_lt (of_decide_eq_false hf))
   exact W.run ha (W.sq (W.rg (WL.an rfl rfl (WL.nx (W.ret fun a ha => pR rfl ha rfl ⟨by rw [teq_all hle hend hall], h⟩)))))
end Go.Sx
namespace Go.Sx
open Go.Proofs
set_option maxHeartbeats 1000000 in
theorem s41 {t u : T} : SEnc 41 (.list (.st .accum)) t u := by
 intro w S cs ds hr hk
 obtain ⟨la, rfl⟩ := hr.is_list
 obtain ⟨lb, rfl⟩ := hk.is_list
 obtain ⟨ga, capa, hva, hmla, hgeta⟩ := list_at hr
 obtain ⟨gb, capb, hvb, hmlb, hgetb⟩ := list_at hk
 rw [hva, hvb]
 obtain ⟨Z, hz, hzl⟩ : ∃ Z : List Value, (∀ w, (zeroValue 182).run Tryz.prog w = .ok (.agg Z.toArray) w) ∧ Z.length = 18 := ⟨_, Tryz.zeroValue182, rfl⟩
 refine cW 107 Tryz.func41 rfl rfl rfl ?_
 refine W.sq (W.rg (WL.an rfl rfl (WL.nx ?_)))
 refine W.sq (W.sq (W.rg (WL.mv rfl rfl (WL.len rfl (lS Tryz.underlying31) rfl (WL.mv rfl rfl (WL.len rfl (lS Tryz.underlying31) rfl (WL.bi rfl rfl (run_neq (c := decide (la.length ≠ lb.length)) neq_cast) rfl (WL.nx (W.cond rfl (fun ht => ?_) (fun hf => W.skip fun a ha => tN ?_))))))))))
 · have hne : la.length ≠ lb.length := of_decide_eq_true ht
   refine W.sq (W.rg (WL.an rfl rfl (WL.nx (W.ret fun a ha => tR (pR rfl ha rfl ⟨by rw [teq_len hne], Fr.refl _ _⟩)))))
 have hle : la.length = lb.length := Classical.byContradiction (of_decide_eq_false hf)
 refine W.run ha (W.sq (W.sq (W.rg (WL.an rfl rfl (WL.nx ?_)))))
 refine W.bk (W.loop (ι := Nat × World) (fun i => [(0, .slice ga la.length capa), (1, .slice gb lb.length capb), (5, .int .i64 (i.1 : Int))]) (fun i w' => w' = i.2 ∧ i.1 ≤ la.length ∧ F0 w w' ∧ ∀ j, j < i.1 → la[j]? = lb[j]?) (fun i => la.length - i.1)
  (0, w) ⟨rfl, rfl, rfl, trivial⟩ ⟨rfl, Nat.zero_le _, Fr.refl _ _, fun j hj => absurd hj (Nat.not_lt_zero j)⟩ ?_)
 rintro ⟨i, _⟩ w1 ⟨rfl, hi, h, hall⟩
 simp only at hi h hall ⊢
 refine W.sq (W.sq (W.rg (WL.mv rfl rfl (WL.mv rfl rfl (WL.len rfl (lS Tryz.underlying31) rfl (WL.bi rfl rfl (run_lss (c := decide (i < la.length)) (decide_eq_decide.2 Int.ofNat_lt.symm)) rfl (WL.nx (W.cond rfl (fun ht => W.skip fun a ha => tN ?_) (fun hf => W.exit fun a ha => tE (tE (eH (tN ?_))))))))))))
 · have hil : i < la.length := of_decide_eq_true ht
   obtain ⟨ta, hta⟩ : ∃ t, la[i]? = some t := ⟨_, List.getElem?_eq_getElem hil⟩
   obtain ⟨tb, htb⟩ : ∃ t, lb[i]? = some t := ⟨_, List.getElem?_eq_getElem (hle ▸ hil)⟩
   obtain ⟨ba, oa, da, hixa, _, hlta, hAa, ra⟩ := hgeta i ta hta
   obtain ⟨bb, ob, db, hixb, _, hltb, hAb, rb⟩ := hgetb i tb htb
   obtain ⟨fla, rfl, hlena, hFa⟩ := ra.st_inv
   obtain ⟨aa_0, fla, rfl, ra_0, hFa⟩ := hFa.cons_inv
   obtain ⟨aa_1, fla, rfl, ra_1, hFa⟩ := hFa.cons_inv
   obtain ⟨aa_2, fla, rfl, ra_2, hFa⟩ := hFa.cons_inv
   obtain rfl := hFa.nil_inv
   simp only [Nat.zero_add, Nat.reduceAdd, Ty.size, SN.size] at ra_0 ra_1 ra_2
   obtain ⟨flb, rfl, hlenb, hFb⟩ := rb.st_inv
   obtain ⟨ab_0, flb, rfl, rb_0, hFb⟩ := hFb.cons_inv
   obtain ⟨ab_1, flb, rfl, rb_1, hFb⟩ := hFb.cons_inv
   obtain ⟨ab_2, flb, rfl, rb_2, hFb⟩ := hFb.cons_inv
   obtain rfl := hFb.nil_inv
   simp only [Nat.zero_add, Nat.reduceAdd, Ty.size, SN.size] at rb_0 rb_1 rb_2
   obtain ⟨ma, rfl⟩ := ra_2.is_list
   obtain ⟨mb, rfl⟩ := rb_2.is_list
   obtain ⟨ha', capa', hva', hmla', hgeta'⟩ := list_at ra_2
   obtain ⟨hb', capb', hvb', hmlb', hgetb'⟩ := list_at rb_2
   refine W.run ha (W.sq (W.bk (W.sq (W.sq (W.quiet (F0 w) mixed (by kernel_rfl) h.drawn ?_)))))
   clear h
   refine QL.move rfl rfl (QL.move rfl rfl (QL.ix rfl rfl (fun w => hixa w Tryz.underlying31 iy151 rfl) rfl (QL.fa rfl (fun w => fld151_0 w _ _) rfl (QL.load rfl (fun w h => lR (f := .str) iy9 ra_0 (h.at_ hlta (hAa.sub 0 1))) rfl (QL.move rfl rfl (QL.move rfl rfl (QL.ix rfl rfl (fun w => hixb w Tryz.underlying31 iy151 rfl) rfl (QL.fa rfl (fun w => fld151_0 w _ _) rfl (QL.load rfl (fun w h => lR (f := .str) iy9 rb_0 (h.at_ hltb (hAb.sub 0 1))) rfl (?_))))))))))
   cases hq1 : teq aa_0 ab_0 with
   | false =>
    refine QL.binAny rfl rfl (neq9.guard ra_0 rb_0 _ _) (neq9.run' hq1 ra_0 rb_0) rfl ?_
    refine QL.skip _ _ _ rfl (QL.next fun w1 h => W.ct rfl ?_)
    exact W.sq (W.rg (WL.an rfl rfl (WL.nx (W.ret fun a ha => tR (bR (tR (tR (bR (tR (pR rfl ha rfl ⟨by rw [teq_at hta htb (fun e => by cases e; exact teq_ne hq1 rfl)], h⟩))))))))))
   | true =>
    refine QL.binAny rfl rfl (neq9.guard ra_0 rb_0 _ _) (neq9.run' hq1 ra_0 rb_0) rfl ?_
    refine QL.move rfl rfl ?_
    refine QL.gd (j := 11) rfl rfl rfl (QL.move rfl rfl (QL.gd (j := 11) rfl rfl rfl (QL.move rfl rfl (QL.gd (j := 11) rfl rfl rfl (QL.ix rfl rfl (fun w => hixa w Tryz.underlying31 iy151 rfl) rfl (QL.gd (j := 11) rfl rfl rfl (QL.fa rfl (fun w => fld151_1 w _ _) rfl (QL.gd (j := 11) rfl rfl rfl (QL.load rfl (fun w h => lR (f := .st .expr) iy66 ra_1 (h.at_ hlta (hAa.sub 1 16))) rfl ?_)))))))))
    refine QL.gd (j := 11) rfl rfl rfl (QL.move rfl rfl (QL.gd (j := 11) rfl rfl rfl (QL.move rfl rfl (QL.gd (j := 11) rfl rfl rfl (QL.ix rfl rfl (fun w => hixb w Tryz.underlying31 iy151 rfl) rfl (QL.gd (j := 11) rfl rfl rfl (QL.fa rfl (fun w => fld151_1 w _ _) rfl (QL.gd (j := 11) rfl rfl rfl (QL.load rfl (fun w h => lR (f := .st .expr) iy66 rb_1 (h.at_ hltb (hAb.sub 1 16))) rfl ?_)))))))))
    cases hq2 : teq aa_1 ab_1 with
    | false =>
     refine QL.gd (j := 11) rfl rfl rfl (QL.call Tryz.call94 rfl rfl (SEnc.quiet (sX _ _) hq2 ra_1 rb_1) (QL.gd (j := 11) rfl rfl rfl (QL.not rfl rfl ?_)))
     refine QL.skip _ _ _ rfl (QL.next fun w1 h => W.ct rfl ?_)
     exact W.sq (W.rg (WL.an rfl rfl (WL.nx (W.ret fun a ha => tR (bR (tR (tR (bR (tR (pR rfl ha rfl ⟨by rw [teq_at hta htb (fun e => by cases e; exact teq_ne hq2 rfl)], h⟩))))))))))
    | true =>
     refine QL.gd (j := 11) rfl rfl rfl (QL.call Tryz.call94 rfl rfl (SEnc.quiet (sX _ _) hq2 ra_1 rb_1) (QL.gd (j := 11) rfl rfl rfl (QL.not rfl rfl (QL.pick rfl rfl rfl ?_))))
     refine QL.move rfl rfl (QL.gd (j := 25) rfl rfl rfl (QL.move rfl rfl (QL.gd (j := 25) rfl rfl rfl (QL.move rfl rfl (QL.gd (j := 25) rfl rfl rfl (QL.ix rfl rfl (fun w => hixa w Tryz.underlying31 iy151 rfl) rfl (QL.gd (j := 25) rfl rfl rfl (QL.fa rfl (fun w => fld151_2 w _ _) rfl ?_))))))))
     refine QL.gd (j := 25) rfl rfl rfl (QL.load (v := .slice ha' ma.length capa') rfl (fun w h => by rw [← hva']; exact lR (f := .list (.st .rule)) iy149 ra_2 (h.at_ hlta (hAa.sub 17 1))) rfl (QL.gd (j := 25) rfl rfl rfl (QL.len rfl (fun w => lS Tryz.underlying149) rfl ?_)))
     refine QL.gd (j := 25) rfl rfl rfl (QL.move rfl rfl (QL.gd (j := 25) rfl rfl rfl (QL.move rfl rfl (QL.gd (j := 25) rfl rfl rfl (QL.ix rfl rfl (fun w => hixb w Tryz.underlying31 iy151 rfl) rfl (QL.gd (j := 25) rfl rfl rfl (QL.fa rfl (fun w => fld151_2 w _ _) rfl ?_)))))))
     refine QL.gd (j := 25) rfl rfl rfl (QL.load (v := .slice hb' mb.length capb') rfl (fun w h => by rw [← hvb']; exact lR (f := .list (.st .rule)) iy149 rb_2 (h.at_ hltb (hAb.sub 17 1))) rfl (QL.gd (j := 25) rfl rfl rfl (QL.len rfl (fun w => lS Tryz.underlying149) rfl ?_)))
     cases hql : decide (ma.length ≠ mb.length) with
     | true =>
      refine QL.gd (j := 25) rfl rfl rfl (QL.binInt rfl rfl (fun w => by rw [run_neq (c := decide (ma.length ≠ mb.length)) neq_cast, hql]) rfl (QL.pick rfl rfl rfl (QL.next fun w1 h => W.ct rfl ?_)))
      exact W.sq (W.rg (WL.an rfl rfl (WL.nx (W.ret fun a ha => tR (bR (tR (tR (bR (tR (pR rfl ha rfl ⟨by rw [teq_at hta htb (fun e => by cases e; exact of_decide_eq_true hql rfl)], h⟩))))))))))
     | false =>
      have hml : ma.length = mb.length := Classical.byContradiction (of_decide_eq_false hql)
      refine QL.gd (j := 25) rfl rfl rfl (QL.binInt rfl rfl (fun w => by rw [run_neq (c := decide (ma.length ≠ mb.length)) neq_cast, hql]) rfl (QL.pick rfl rfl rfl (QL.next fun w1 h => W.cond_false rfl (W.skip fun a ha => tN ?_))))
      refine W.run ha (W.sq (W.rg (WL.an rfl rfl (WL.nx ?_))))
      refine W.bk (W.loop (ι := Nat × World) (fun j => [(0, .slice ga la.length capa), (1, .slice gb lb.length capb), (5, .int .i64 (i : Int)), (6, .int .i64 (j.1 : Int))]) (fun j w' => w' = j.2 ∧ j.1 ≤ ma.length ∧ F0 w w' ∧ ∀ k, k < j.1 → ma[k]? = mb[k]?) (fun j => ma.length - j.1)
       (0, w1) ⟨rfl, rfl, rfl, rfl, trivial⟩ ⟨rfl, Nat.zero_le _, h, fun k hk => absurd hk (Nat.not_lt_zero k)⟩ ?_)
      clear h
      rintro ⟨j, _⟩ w2 ⟨rfl, hj, h, hall'⟩
      simp only at hj h hall' ⊢
      refine W.sq (W.sq (W.rg (WL.mv rfl rfl (WL.mv rfl rfl (WL.mv rfl rfl (WL.ix rfl rfl (hixa _ Tryz.underlying31 iy151 rfl) rfl (WL.fa rfl (fld151_2 _ _ _) rfl ?_)))))))
      refine WL.ld (v := .slice ha' ma.length capa') rfl (by rw [← hva']; exact lR (f := .list (.st .rule)) iy149 ra_2 (h.at_ hlta (hAa.sub 17 1))) rfl ?_
      refine WL.len rfl (lS Tryz.underlying149) rfl (WL.bi rfl rfl (run_lss (c := decide (j < ma.length)) (decide_eq_decide.2 Int.ofNat_lt.symm)) rfl (WL.nx (W.cond rfl (fun ht => W.skip fun a ha => tN ?_) (fun hf => W.exit fun a ha => tE (tE (eH (bN (tN ?_))))))))
      · have hjl : j < ma.length := of_decide_eq_true ht
        obtain ⟨sa, hsa⟩ : ∃ t, ma[j]? = some t := ⟨_, List.getElem?_eq_getElem hjl⟩
        obtain ⟨sb, hsb⟩ : ∃ t, mb[j]? = some t := ⟨_, List.getElem?_eq_getElem (hml ▸ hjl)⟩
        obtain ⟨bsa, osa, dsa, hixsa, _, hltsa, hAsa, rsa⟩ := hgeta' j sa hsa
        obtain ⟨bsb, osb, dsb, hixsb, _, hltsb, hAsb, rsb⟩ := hgetb' j sb hsb
        refine W.run ha (W.sq (W.bk ?_))
        have honea := Rep.one _ _ _ rsa
        obtain ⟨wa, hsta, aba, fa⟩ := put_new (w := w2) (z := .agg Z.toArray) (zs := Z) iy182 rfl hzl honea.1 honea.2
        refine W.sq (W.rg (WL.mv rfl rfl (WL.mv rfl rfl (WL.ix rfl rfl (hixa _ Tryz.underlying31 iy151 rfl) rfl (WL.fa rfl (fld151_2 _ _ _) rfl ?_)))))
        refine WL.ld (v := .slice ha' ma.length capa') rfl (by rw [← hva']; exact lR (f := .list (.st .rule)) iy149 ra_2 (h.at_ hlta (hAa.sub 17 1))) rfl ?_
        refine WL.mv rfl rfl (WL.ix rfl rfl (hixsa _ Tryz.underlying149 iy182 rfl) rfl (WL.ld rfl (lR (f := .st .rule) iy182 rsa (h.at_ hltsa hAsa)) rfl (WL.alloc (hz _) rfl (WL.so rfl rfl hsta (WL.nx ?_)))))
        replace h : F0 w wa := h.trans fa
        have honeb := Rep.one _ _ _ rsb
        obtain ⟨wb, hstb, abb, fb⟩ := put_new (w := wa) (z := .agg Z.toArray) (zs := Z) iy182 rfl hzl honeb.1 honeb.2
        refine W.sq (W.rg (WL.mv rfl rfl (WL.mv rfl rfl (WL.ix rfl rfl (hixb _ Tryz.underlying31 iy151 rfl) rfl (WL.fa rfl (fld151_2 _ _ _) rfl ?_)))))
        refine WL.ld (v := .slice hb' mb.length capb') rfl (by rw [← hvb']; exact lR (f := .list (.st .rule)) iy149 rb_2 (h.at_ hltb (hAb.sub 17 1))) rfl ?_
        refine WL.mv rfl rfl (WL.ix rfl rfl (hixsb _ Tryz.underlying149 iy182 rfl) rfl (WL.ld rfl (lR (f := .st .rule) iy182 rsb (h.at_ hltsb hAsb)) rfl (WL.alloc (hz _) rfl (WL.so rfl rfl hstb (WL.nx ?_)))))
        replace h : F0 w wb := h.trans fb
        replace aba := (fb.blk _ aba.lt (fun h => h)).trans aba
        have hbase := h
        clear h hsta hstb fa fb
        generalize wa.heap.size = bxb at abb ⊢
        generalize w2.heap.size = bxa at aba ⊢
        replace aba : Blk wb bxa dsa 182 := aba
        replace rsa := rsa.fresh hbase
        replace rsb := rsb.fresh hbase
        have hltxa := aba.lt
        have hltxb := abb.lt
        have hAxa := aba.all
        have hAxb := abb.all
        obtain ⟨w1, hw1⟩ : ∃ w1, w1 = wb := ⟨_, rfl⟩
        have h : F0 wb w1 := by rw [hw1]; exact Fr.refl _ _
        rw [← hw1]
        clear hw1
        refine W.weak [(0, .slice ga la.length capa), (1, .slice gb lb.length capb), (5, .int .i64 (i : Int)), (6, .int .i64 (j : Int)), (7, ptr bxa), (8, ptr bxb)] ⟨rfl, rfl, rfl, rfl, rfl, rfl, trivial⟩ ?_
        obtain ⟨gla, rfl, hlena', hGa⟩ := rsa.st_inv
        obtain ⟨ca_0, gla, rfl, sa_0, hGa⟩ := hGa.cons_inv
        obtain ⟨ca_1, gla, rfl, sa_1, hGa⟩ := hGa.cons_inv
        obtain ⟨ca_2, gla, rfl, sa_2, hGa⟩ := hGa.cons_inv
        obtain rfl := hGa.nil_inv
        simp only [Nat.zero_add, Nat.reduceAdd, Ty.size, SN.size] at sa_0 sa_1 sa_2
        obtain ⟨glb, rfl, hlenb', hGb⟩ := rsb.st_inv
        obtain ⟨cb_0, glb, rfl, sb_0, hGb⟩ := hGb.cons_inv
        obtain ⟨cb_1, glb, rfl, sb_1, hGb⟩ := hGb.cons_inv
        obtain ⟨cb_2, glb, rfl, sb_2, hGb⟩ := hGb.cons_inv
        obtain rfl := hGb.nil_inv
        simp only [Nat.zero_add, Nat.reduceAdd, Ty.size, SN.size] at sb_0 sb_1 sb_2
        refine W.sq (W.rg ?_)
        refine (WL.fa rfl (fld182_1 _ _ _) rfl ((WL.ld rfl (lR (f := .bool) iy4 sa_1 (h.at_ hltxa (hAxa.sub 1 1))) rfl ?_)))
        refine (WL.fa rfl (fld182_1 _ _ _) rfl ((WL.ld rfl (lR (f := .bool) iy4 sb_1 (h.at_ hltxb (hAxb.sub 1 1))) rfl ?_)))
        cases hr1 : teq ca_1 cb_1 with
        | false =>
         refine WL.binAny rfl rfl (neq4.guard sa_1 sb_1 _ _ _) (neq4.run' hr1 sa_1 sb_1 _) rfl ?_
         refine WL.skip _ _ _ rfl (WL.nx (W.ct rfl ?_))
         exact W.sq (W.rg (WL.an rfl rfl (WL.nx (W.ret fun a ha => bR (tR (tR (bR (bR (tR (tR (bR (tR (pR rfl ha rfl ⟨by rw [teq_at hta htb (fun e => by cases e; exact teq_ne hr1 (by have := Option.some.inj (hsa.symm.trans hsb); cases this; rfl))], hbase.trans h⟩)))))))))))))
        | true =>
         refine WL.binAny rfl rfl (neq4.guard sa_1 sb_1 _ _ _) (neq4.run' hr1 sa_1 sb_1 _) rfl (WL.mv rfl rfl ?_)
         refine WL.gd (j := 5) rfl rfl rfl (WL.fa rfl (fld182_0 _ _ _) rfl (WL.gd (j := 5) rfl rfl rfl (WL.ld rfl (lR (f := .list (.st .expr)) iy64 sa_0 (h.at_ hltxa (hAxa.sub 0 1))) rfl ?_)))
         refine WL.gd (j := 5) rfl rfl rfl (WL.fa rfl (fld182_0 _ _ _) rfl (WL.gd (j := 5) rfl rfl rfl (WL.ld rfl (lR (f := .list (.st .expr)) iy64 sb_0 (h.at_ hltxb (hAxb.sub 0 1))) rfl ?_)))
         cases hr0 : teq ca_0 cb_0 with
         | false =>
          refine WL.gd (j := 5) rfl rfl rfl (WL.cl Tryz.call90 rfl rfl (SEnc.call s90' hr0 sa_0 sb_0 h) ?_ nop)
          clear h
          rintro _ w1 ⟨rfl, h⟩
          refine WL.gd (j := 5) rfl rfl rfl (WL.not rfl rfl ?_)
          refine WL.skip _ _ _ rfl (WL.nx (W.ct rfl ?_))
          exact W.sq (W.rg (WL.an rfl rfl (WL.nx (W.ret fun a ha => bR (tR (tR (bR (bR (tR (tR (bR (tR (pR rfl ha rfl ⟨by rw [teq_at hta htb (fun e => by cases e; exact teq_ne hr0 (by have := Option.some.inj (hsa.symm.trans hsb); cases this; rfl))], hbase.trans h⟩)))))))))))))
         | true =>
          refine WL.gd (j := 5) rfl rfl rfl (WL.cl Tryz.call90 rfl rfl (SEnc.call s90' hr0 sa_0 sb_0 h) ?_ nop)
          clear h
          rintro _ w1 ⟨rfl, h⟩
          refine WL.gd (j := 5) rfl rfl rfl (WL.not rfl rfl (WL.pick rfl rfl rfl (WL.mv rfl rfl ?_)))
          refine WL.gd (j := 13) rfl rfl rfl (WL.fa rfl (fld182_2 _ _ _) rfl (WL.gd (j := 13) rfl rfl rfl (WL.ld rfl (lR (f := .st .expr) iy66 sa_2 (h.at_ hltxa (hAxa.sub 2 16))) rfl ?_)))
          refine WL.gd (j := 13) rfl rfl rfl (WL.fa rfl (fld182_2 _ _ _) rfl (WL.gd (j := 13) rfl rfl rfl (WL.ld rfl (lR (f := .st .expr) iy66 sb_2 (h.at_ hltxb (hAxb.sub 2 16))) rfl ?_)))
          cases hr2 : teq ca_2 cb_2 with
          | false =>
           refine WL.gd (j := 13) rfl rfl rfl (WL.cl Tryz.call94 rfl rfl (SEnc.call (sX _ _) hr2 sa_2 sb_2 h) ?_ nop)
           clear h
           rintro _ w1 ⟨rfl, h⟩
           refine WL.gd (j := 13) rfl rfl rfl (WL.not rfl rfl ?_)
           refine WL.skip _ _ _ rfl (WL.nx (W.ct rfl ?_))
           exact W.sq (W.rg (WL.an rfl rfl (WL.nx (W.ret fun a ha => bR (tR (tR (bR (bR (tR (tR (bR (tR (pR rfl ha rfl ⟨by rw [teq_at hta htb (fun e => by cases e; exact teq_ne hr2 (by have := Option.some.inj (hsa.symm.trans hsb); cases this; rfl))], hbase.trans h⟩)))))))))))))
          | true =>
           refine WL.gd (j := 13) rfl rfl rfl (WL.cl Tryz.call94 rfl rfl (SEnc.call (sX _ _) hr2 sa_2 sb_2 h) ?_ nop)
           clear h
           rintro _ w1 ⟨rfl, h⟩
           refine WL.gd (j := 13) rfl rfl rfl (WL.not rfl rfl (WL.pick rfl rfl rfl (WL.nx (W.cond_false rfl (W.skip fun a ha => bN (tN ?_))))))
           refine W.run ha (W.rg (WL.mv rfl rfl (WL.bi rfl rfl rfl rfl (WL.an rfl rfl (WL.nil fun a ha => tN ?_)))))
           exact ⟨(j + 1, w1), ha.weak ⟨rfl, rfl, rfl, congrArg some (inc_i64 (lt_len hjl hmla')), trivial⟩, ⟨rfl, hjl, hbase.trans h, step_eq hall' hsa hsb (by rw [teq_eq hr0, teq_eq hr1, teq_eq hr2])⟩, Nat.sub_lt_sub_left hjl (Nat.lt_succ_self j)⟩
      · have hend : j = ma.length := Nat.le_antisymm hj (Nat.le_of_not_lt (of_decide_eq_false hf))
        refine W.run ha (W.rg (WL.mv rfl rfl (WL.bi rfl rfl rfl rfl (WL.an rfl rfl (WL.nil fun a ha => tN ?_)))))
        exact ⟨(i + 1, w2), ha.weak ⟨rfl, rfl, congrArg some (inc_i64 (lt_len hil hmla)), trivial⟩, ⟨rfl, hil, h, step_eq hall hta htb (by rw [teq_eq hq1, teq_eq hq2, teq_eq (teq_all hml hend hall')])⟩, Nat.sub_lt_sub_left hil (Nat.lt_succ_self i)⟩
 · have hend : i = la.length := Nat.le_antisymm hi (Nat.le_of_not_lt (of_decide_eq_false hf))
   exact W.run ha (W.sq (W.rg (WL.an rfl rfl (WL.nx (W.ret fun a ha => pR rfl ha rfl ⟨by rw [teq_all hle hend hall], h⟩)))))
end Go.Sx
namespace Go.Sx
open Go.Proofs
set_option maxHeartbeats 4000000 in
theorem s17 {t u : T} (ih : ∀ t' u', t'.wt < t.wt → SEnc 36 (.list (.st .use)) t' u') : SEnc 17 (.st .sheet) t u := by
 intro w S cs ds hr hk
 have hN : t.wt ≤ t.wt := Nat.le_refl _
 refine cW 92 Tryz.func17 rfl rfl rfl ?_
 refine W.sq (W.rg (WL.box (v := .agg cs.toArray) rfl rfl ?_))
 have fa : F0 w (w.alloc (.cells cs.toArray 36)) := Fr.alloc _ _ _
 have aba : Blk (w.alloc (.cells cs.toArray 36)) w.heap.size cs 36 := Blk.alloc_new
 show WL _ _ _ _ _ _ _ (w.alloc (.cells cs.toArray 36))
 generalize w.alloc (.cells cs.toArray 36) = wa at fa aba ⊢
 generalize w.heap.size = bxa at aba ⊢
 refine WL.box (v := .agg ds.toArray) rfl rfl ?_
 have fb : F0 wa (wa.alloc (.cells ds.toArray 36)) := Fr.alloc _ _ _
 have abb : Blk (wa.alloc (.cells ds.toArray 36)) wa.heap.size ds 36 := Blk.alloc_new
 show WL _ _ _ _ _ _ _ (wa.alloc (.cells ds.toArray 36))
 generalize wa.alloc (.cells ds.toArray 36) = wb at fb abb ⊢
 generalize wa.heap.size = bxb at abb ⊢
 have fw : F0 w wb := fa.trans fb
 replace aba : Blk wb bxa cs 36 := (fb.blk _ aba.lt (fun h => h)).trans aba
 have ra := hr.fresh fw
 have rb := hk.fresh fw
 have hlta := aba.lt
 have hltb := abb.lt
 have hAa := aba.all
 have hAb := abb.all
 have h : F0 wb wb := Fr.refl _ _
 obtain ⟨fla, rfl, hlena, hFa⟩ := ra.st_inv
 obtain ⟨aa_0, fla, rfl, ra_0, hFa⟩ := hFa.cons_inv
 obtain ⟨aa_1, fla, rfl, ra_1, hFa⟩ := hFa.cons_inv
 obtain ⟨aa_2, fla, rfl, ra_2, hFa⟩ := hFa.cons_inv
 obtain ⟨aa_3, fla, rfl, ra_3, hFa⟩ := hFa.cons_inv
 obtain ⟨aa_4, fla, rfl, ra_4, hFa⟩ := hFa.cons_inv
 obtain ⟨aa_5, fla, rfl, ra_5, hFa⟩ := hFa.cons_inv
 obtain ⟨aa_6, fla, rfl, ra_6, hFa⟩ := hFa.cons_inv
 obtain ⟨aa_7, fla, rfl, ra_7, hFa⟩ := hFa.cons_inv
 obtain ⟨aa_8, fla, rfl, ra_8, hFa⟩ := hFa.cons_inv
 obtain ⟨aa_9, fla, rfl, ra_9, hFa⟩ := hFa.cons_inv
 obtain rfl := hFa.nil_inv
 simp only [Nat.zero_add, Nat.reduceAdd, Ty.size] at ra_0 ra_1 ra_2 ra_3 ra_4 ra_5 ra_6 ra_7 ra_8 ra_9
 obtain ⟨flb, rfl, hlenb, hFb⟩ := rb.st_inv
 obtain ⟨ab_0, flb, rfl, rb_0, hFb⟩ := hFb.cons_inv
 obtain ⟨ab_1, flb, rfl, rb_1, hFb⟩ := hFb.cons_inv
 obtain ⟨ab_2, flb, rfl, rb_2, hFb⟩ := hFb.cons_inv
 obtain ⟨ab_3, flb, rfl, rb_3, hFb⟩ := hFb.cons_inv
 obtain ⟨ab_4, flb, rfl, rb_4, hFb⟩ := hFb.cons_inv
 obtain ⟨ab_5, flb, rfl, rb_5, hFb⟩ := hFb.cons_inv
 obtain ⟨ab_6, flb, rfl, rb_6, hFb⟩ := hFb.cons_inv
 obtain ⟨ab_7, flb, rfl, rb_7, hFb⟩ := hFb.cons_inv
 obtain ⟨ab_8, flb, rfl, rb_8, hFb⟩ := hFb.cons_inv
 obtain ⟨ab_9, flb, rfl, rb_9, hFb⟩ := hFb.cons_inv
 obtain rfl := hFb.nil_inv
 simp only [Nat.zero_add, Nat.reduceAdd, Ty.size] at rb_0 rb_1 rb_2 rb_3 rb_4 rb_5 rb_6 rb_7 rb_8 rb_9
 have hu : aa_1.wt < (T.agg .sheet [aa_0, aa_1, aa_2, aa_3, aa_4, aa_5, aa_6, aa_7, aa_8, aa_9]).wt := by
  have := T.wt_mem (t := aa_1) (l := [aa_0, aa_1, aa_2, aa_3, aa_4, aa_5, aa_6, aa_7, aa_8, aa_9]) (by simp)
  rw [T.wt_agg]; omega
 obtain ⟨ma, rfl⟩ := ra_7.is_list
 obtain ⟨mb, rfl⟩ := rb_7.is_list
 obtain ⟨ga, capa, hva, hmla, hgeta⟩ := list_at ra_7
 obtain ⟨gb, capb, hvb, hmlb, hgetb⟩ := list_at rb_7
 refine WL.an rfl rfl (WL.kp [(2, ptr bxa), (3, ptr bxb)] ⟨rfl, rfl, trivial⟩ ?_)
 obtain ⟨w1, hw1⟩ : ∃ w1, w1 = wb := ⟨_, rfl⟩
 have h : F0 wb w1 := by rw [hw1]; exact Fr.refl _ _
 rw [← hw1]
 clear hw1
 refine W.sq (W.sq (W.rg ?_))
 refine (WL.fa rfl (fld36_0 _ _ _) rfl ((WL.ld rfl (lR (f := .str) iy9 ra_0 (h.at_ hlta (hAa.sub 0 1))) rfl ?_)))
 refine (WL.fa rfl (fld36_0 _ _ _) rfl ((WL.ld rfl (lR (f := .str) iy9 rb_0 (h.at_ hltb (hAb.sub 0 1))) rfl ?_)))
 cases hq0 : teq aa_0 ab_0 with
 | false =>
  refine WL.binAny rfl rfl (neq9.guard ra_0 rb_0 _ _ _) (neq9.run' hq0 ra_0 rb_0 _) rfl ?_
  refine WL.skip _ _ _ rfl (WL.nx (W.ct rfl ?_))
  exact W.sq (W.rg (WL.an rfl rfl (WL.nx (W.ret fun a ha => tR (pR rfl ha rfl ⟨by rw [teq_false (fun e => by cases e; exact teq_ne hq0 rfl)], fw.trans h⟩)))))
 | true =>
 refine WL.binAny rfl rfl (neq9.guard ra_0 rb_0 _ _ _) (neq9.run' hq0 ra_0 rb_0 _) rfl (WL.mv rfl rfl ?_)
 refine WL.gd (j := 5) rfl rfl rfl (WL.fa rfl (fld36_7 _ _ _) rfl (WL.gd (j := 5) rfl rfl rfl (WL.ld (v := .slice ga ma.length capa) rfl (by rw [← hva]; exact lR (f := .list (.st .mode)) iy32 ra_7 (h.at_ hlta (hAa.sub 7 1))) rfl ?_)))
 refine WL.gd (j := 5) rfl rfl rfl (WL.len rfl (lS Tryz.underlying32) rfl ?_)
 refine WL.gd (j := 5) rfl rfl rfl (WL.fa rfl (fld36_7 _ _ _) rfl (WL.gd (j := 5) rfl rfl rfl (WL.ld (v := .slice gb mb.length capb) rfl (by rw [← hvb]; exact lR (f := .list (.st .mode)) iy32 rb_7 (h.at_ hltb (hAb.sub 7 1))) rfl ?_)))
 refine WL.gd (j := 5) rfl rfl rfl (WL.len rfl (lS Tryz.underlying32) rfl ?_)
 cases hql : decide (ma.length ≠ mb.length) with
 | true =>
  refine WL.gd (j := 5) rfl rfl rfl (WL.bi rfl rfl (by rw [run_neq (c := decide (ma.length ≠ mb.length)) neq_cast, hql]) rfl (WL.pick rfl rfl rfl (WL.nx (W.ct rfl ?_))))
  exact W.sq (W.rg (WL.an rfl rfl (WL.nx (W.ret fun a ha => tR (pR rfl ha rfl ⟨by rw [teq_false (fun e => by cases e; exact of_decide_eq_true hql rfl)], fw.trans h⟩)))))
 | false =>
 have hml : ma.length = mb.length := Classical.byContradiction (of_decide_eq_false hql)
 refine WL.gd (j := 5) rfl rfl rfl (WL.bi rfl rfl (by rw [run_neq (c := decide (ma.length ≠ mb.length)) neq_cast, hql]) rfl (WL.pick rfl rfl rfl (WL.nx (W.cond_false rfl (W.skip fun a ha => tN ?_)))))
 refine W.run ha (W.sq (W.sq (W.rg (WL.an rfl rfl (WL.nx ?_)))))
 refine W.bk (W.loop (ι := Nat × World) (fun i => [(2, ptr bxa), (3, ptr bxb), (5, .int .i64 (i.1 : Int))]) (fun i w' => w' = i.2 ∧ i.1 ≤ ma.length ∧ F0 wb w' ∧ ∀ j, j < i.1 → ma[j]? = mb[j]?) (fun i => ma.length - i.1)
  (0, w1) ⟨rfl, rfl, rfl, trivial⟩ ⟨rfl, Nat.zero_le _, h, fun j hj => absurd hj (Nat.not_lt_zero j)⟩ ?_)
 clear h
 rintro ⟨i, _⟩ w1 ⟨rfl, hi, h, hall⟩
 simp only at hi h hall ⊢
 refine W.sq (W.sq (W.rg (WL.mv rfl rfl ?_)))
 refine (WL.fa rfl (fld36_7 _ _ _) rfl ((WL.ld (v := .slice ga ma.length capa) rfl (by rw [← hva]; exact lR (f := .list (.st .mode)) iy32 ra_7 (h.at_ hlta (hAa.sub 7 1))) rfl ?_)))
 refine WL.len rfl (lS Tryz.underlying32) rfl (WL.bi rfl rfl (run_lss (c := decide (i < ma.length)) (decide_eq_decide.2 Int.ofNat_lt.symm)) rfl (WL.nx (W.cond rfl (fun ht => W.skip fun a ha => tN ?_) (fun hf => W.exit fun a ha => tE (tE (eH (tN ?_)))))))
 · have hil : i < ma.length := of_decide_eq_true ht
   obtain ⟨ta, hta⟩ : ∃ t, ma[i]? = some t := ⟨_, List.getElem?_eq_getElem hil⟩
   obtain ⟨tb, htb⟩ : ∃ t, mb[i]? = some t := ⟨_, List.getElem?_eq_getElem (hml ▸ hil)⟩
   obtain ⟨ba, oa, da, hixa, _, hltsa, hAsa, sa⟩ := hgeta i ta hta
   obtain ⟨bb, ob, db, hixb, _, hltsb, hAsb, sb⟩ := hgetb i tb htb
   refine W.run ha (W.sq (W.bk (W.sq (W.quiet (F0 wb) mixed (by kernel_rfl) h.drawn ?_))))
   clear h
   refine QL.fa rfl (fun w => fld36_7 w _ _) rfl (QL.load (v := .slice ga ma.length capa) rfl (fun w h => by rw [← hva]; exact lR (f := .list (.st .mode)) iy32 ra_7 (h.at_ hlta (hAa.sub 7 1))) rfl (QL.move rfl rfl (QL.ix rfl rfl (fun w => hixa w Tryz.underlying32 iy84 rfl) rfl (QL.load rfl (fun w h => lR (f := .st .mode) iy84 sa (h.at_ hltsa hAsa)) rfl ?_))))
   refine QL.fa rfl (fun w => fld36_7 w _ _) rfl (QL.load (v := .slice gb mb.length capb) rfl (fun w h => by rw [← hvb]; exact lR (f := .list (.st .mode)) iy32 rb_7 (h.at_ hltb (hAb.sub 7 1))) rfl (QL.move rfl rfl (QL.ix rfl rfl (fun w => hixb w Tryz.underlying32 iy84 rfl) rfl (QL.load rfl (fun w h => lR (f := .st .mode) iy84 sb (h.at_ hltsb hAsb)) rfl ?_))))
   cases hqs : teq ta tb with
   | false =>
    refine QL.binAny rfl rfl (neq84.guard sa sb _ _) (neq84.run' hqs sa sb) rfl ?_
    refine QL.skip _ _ _ rfl (QL.next fun w1 h => W.ct rfl ?_)
    exact W.sq (W.rg (WL.an rfl rfl (WL.nx (W.ret fun a ha => bR (tR (tR (bR (tR (pR rfl ha rfl ⟨by rw [teq_false (fun e => by cases e; exact teq_ne hqs (Option.some.inj (hta.symm.trans htb)))], fw.trans h⟩)))))))))
   | true =>
    refine QL.binAny rfl rfl (neq84.guard sa sb _ _) (neq84.run' hqs sa sb) rfl ?_
    refine QL.next fun w1 h => W.cond_false rfl (W.skip fun a ha => bN (tN ?_))
    refine W.run ha (W.rg (WL.mv rfl rfl (WL.bi rfl rfl rfl rfl (WL.an rfl rfl (WL.nil fun a ha => tN ?_)))))
    exact ⟨(i + 1, w1), ha.weak ⟨rfl, rfl, congrArg some (inc_i64 (lt_len hil hmla)), trivial⟩, ⟨rfl, hil, h, step_eq hall hta htb (teq_eq hqs)⟩, Nat.sub_lt_sub_left hil (Nat.lt_succ_self i)⟩
 · have hend : i = ma.length := Nat.le_antisymm hi (Nat.le_of_not_lt (of_decide_eq_false hf))
   have hmm : teq (.list ma) (.list mb) = true := teq_all hml hend hall
   refine W.run ha (W.sq (W.rg ?_))
   refine (WL.fa rfl (fld36_1 _ _ _) rfl ((WL.ld rfl (lR (f := .list (.st .use)) iy26 ra_1 (h.at_ hlta (hAa.sub 1 1))) rfl ?_)))
   refine (WL.fa rfl (fld36_1 _ _ _) rfl ((WL.ld rfl (lR (f := .list (.st .use)) iy26 rb_1 (h.at_ hltb (hAb.sub 1 1))) rfl ?_)))
   cases hq1 : teq aa_1 ab_1 with
   | false =>
    refine (WL.cl Tryz.call36 rfl rfl (SEnc.call (ih _ _ hu) hq1 ra_1 rb_1 h) ?_ nop)
    clear h
    rintro _ w1 ⟨rfl, h⟩
    refine WL.skip _ _ _ rfl (WL.nx (W.ret fun a ha => pR rfl ha rfl ⟨by rw [teq_false (fun e => by cases e; exact teq_ne hq1 rfl)], fw.trans h⟩))
   | true =>
    refine (WL.cl Tryz.call36 rfl rfl (SEnc.call (ih _ _ hu) hq1 ra_1 rb_1 h) ?_ nop)
    clear h
    rintro _ w1 ⟨rfl, h⟩
    refine ((WL.mv rfl rfl ?_))
    refine WL.gd (j := 5) rfl rfl rfl (WL.fa rfl (fld36_2 _ _ _) rfl (WL.gd (j := 5) rfl rfl rfl (WL.ld rfl (lR (f := .list (.st .template)) iy27 ra_2 (h.at_ hlta (hAa.sub 2 1))) rfl ?_)))
    refine WL.gd (j := 5) rfl rfl rfl (WL.fa rfl (fld36_2 _ _ _) rfl (WL.gd (j := 5) rfl rfl rfl (WL.ld rfl (lR (f := .list (.st .template)) iy27 rb_2 (h.at_ hltb (hAb.sub 2 1))) rfl ?_)))
    cases hq2 : teq aa_2 ab_2 with
    | false =>
     refine WL.gd (j := 5) rfl rfl rfl (WL.cl Tryz.call37 rfl rfl (SEnc.call s37 hq2 ra_2 rb_2 h) ?_ nop)
     clear h
     rintro _ w1 ⟨rfl, h⟩
     refine WL.skip _ _ _ rfl (WL.nx (W.ret fun a ha => pR rfl ha rfl ⟨by rw [teq_false (fun e => by cases e; exact teq_ne hq2 rfl)], fw.trans h⟩))
    | true =>
     refine WL.gd (j := 5) rfl rfl rfl (WL.cl Tryz.call37 rfl rfl (SEnc.call s37 hq2 ra_2 rb_2 h) ?_ nop)
     clear h
     rintro _ w1 ⟨rfl, h⟩
     refine (WL.pick rfl rfl rfl (WL.mv rfl rfl ?_))
     refine WL.gd (j := 12) rfl rfl rfl (WL.fa rfl (fld36_3 _ _ _) rfl (WL.gd (j := 12) rfl rfl rfl (WL.ld rfl (lR (f := .list (.st .dfn)) iy28 ra_3 (h.at_ hlta (hAa.sub 3 1))) rfl ?_)))
     refine WL.gd (j := 12) rfl rfl rfl (WL.fa rfl (fld36_3 _ _ _) rfl (WL.gd (j := 12) rfl rfl rfl (WL.ld rfl (lR (f := .list (.st .dfn)) iy28 rb_3 (h.at_ hltb (hAb.sub 3 1))) rfl ?_)))
     cases hq3 : teq aa_3 ab_3 with
     | false =>
      refine WL.gd (j := 12) rfl rfl rfl (WL.cl Tryz.call38 rfl rfl (SEnc.call s38 hq3 ra_3 rb_3 h) ?_ nop)
      clear h
      rintro _ w1 ⟨rfl, h⟩
      refine WL.skip _ _ _ rfl (WL.nx (W.ret fun a ha => pR rfl ha rfl ⟨by rw [teq_false (fun e => by cases e; exact teq_ne hq3 rfl)], fw.trans h⟩))
     | true =>
      refine WL.gd (j := 12) rfl rfl rfl (WL.cl Tryz.call38 rfl rfl (SEnc.call s38 hq3 ra_3 rb_3 h) ?_ nop)
      clear h
      rintro _ w1 ⟨rfl, h⟩
      refine (WL.pick rfl rfl rfl (WL.mv rfl rfl ?_))
      refine WL.gd (j := 19) rfl rfl rfl (WL.fa rfl (fld36_4 _ _ _) rfl (WL.gd (j := 19) rfl rfl rfl (WL.ld rfl (lR (f := .list (.st .global)) iy29 ra_4 (h.at_ hlta (hAa.sub 4 1))) rfl ?_)))
      refine WL.gd (j := 19) rfl rfl rfl (WL.fa rfl (fld36_4 _ _ _) rfl (WL.gd (j := 19) rfl rfl rfl (WL.ld rfl (lR (f := .list (.st .global)) iy29 rb_4 (h.at_ hltb (hAb.sub 4 1))) rfl ?_)))
      cases hq4 : teq aa_4 ab_4 with
      | false =>
       refine WL.gd (j := 19) rfl rfl rfl (WL.cl Tryz.call39 rfl rfl (SEnc.call s39 hq4 ra_4 rb_4 h) ?_ nop)
       clear h
       rintro _ w1 ⟨rfl, h⟩
       refine WL.skip _ _ _ rfl (WL.nx (W.ret fun a ha => pR rfl ha rfl ⟨by rw [teq_false (fun e => by cases e; exact teq_ne hq4 rfl)], fw.trans h⟩))
      | true =>
       refine WL.gd (j := 19) rfl rfl rfl (WL.cl Tryz.call39 rfl rfl (SEnc.call s39 hq4 ra_4 rb_4 h) ?_ nop)
       clear h
       rintro _ w1 ⟨rfl, h⟩
       refine (WL.pick rfl rfl rfl (WL.mv rfl rfl ?_))
       refine WL.gd (j := 26) rfl rfl rfl (WL.fa rfl (fld36_5 _ _ _) rfl (WL.gd (j := 26) rfl rfl rfl (WL.ld rfl (lR (f := .list (.st .key)) iy30 ra_5 (h.at_ hlta (hAa.sub 5 1))) rfl ?_)))
       refine WL.gd (j := 26) rfl rfl rfl (WL.fa rfl (fld36_5 _ _ _) rfl (WL.gd (j := 26) rfl rfl rfl (WL.ld rfl (lR (f := .list (.st .key)) iy30 rb_5 (h.at_ hltb (hAb.sub 5 1))) rfl ?_)))
       cases hq5 : teq aa_5 ab_5 with
       | false =>
        refine WL.gd (j := 26) rfl rfl rfl (WL.cl Tryz.call40 rfl rfl (SEnc.call s40 hq5 ra_5 rb_5 h) ?_ nop)
        clear h
        rintro _ w1 ⟨rfl, h⟩
        refine WL.skip _ _ _ rfl (WL.nx (W.ret fun a ha => pR rfl ha rfl ⟨by rw [teq_false (fun e => by cases e; exact teq_ne hq5 rfl)], fw.trans h⟩))
       | true =>
        refine WL.gd (j := 26) rfl rfl rfl (WL.cl Tryz.call40 rfl rfl (SEnc.call s40 hq5 ra_5 rb_5 h) ?_ nop)
        clear h
        rintro _ w1 ⟨rfl, h⟩
        refine (WL.pick rfl rfl rfl (WL.mv rfl rfl ?_))
        refine WL.gd (j := 33) rfl rfl rfl (WL.fa rfl (fld36_6 _ _ _) rfl (WL.gd (j := 33) rfl rfl rfl (WL.ld rfl (lR (f := .list (.st .accum)) iy31 ra_6 (h.at_ hlta (hAa.sub 6 1))) rfl ?_)))
        refine WL.gd (j := 33) rfl rfl rfl (WL.fa rfl (fld36_6 _ _ _) rfl (WL.gd (j := 33) rfl rfl rfl (WL.ld rfl (lR (f := .list (.st .accum)) iy31 rb_6 (h.at_ hltb (hAb.sub 6 1))) rfl ?_)))
        cases hq6 : teq aa_6 ab_6 with
        | false =>
         refine WL.gd (j := 33) rfl rfl rfl (WL.cl Tryz.call41 rfl rfl (SEnc.call s41 hq6 ra_6 rb_6 h) ?_ nop)
         clear h
         rintro _ w1 ⟨rfl, h⟩
         refine WL.skip _ _ _ rfl (WL.nx (W.ret fun a ha => pR rfl ha rfl ⟨by rw [teq_false (fun e => by cases e; exact teq_ne hq6 rfl)], fw.trans h⟩))
        | true =>
         refine WL.gd (j := 33) rfl rfl rfl (WL.cl Tryz.call41 rfl rfl (SEnc.call s41 hq6 ra_6 rb_6 h) ?_ nop)
         clear h
         rintro _ w1 ⟨rfl, h⟩
         refine (WL.pick rfl rfl rfl (WL.mv rfl rfl ?_))
         refine WL.gd (j := 40) rfl rfl rfl (WL.fa rfl (fld36_8 _ _ _) rfl (WL.gd (j := 40) rfl rfl rfl (WL.ld rfl (lR (f := .list (.st .output)) iy33 ra_8 (h.at_ hlta (hAa.sub 8 1))) rfl ?_)))
         refine WL.gd (j := 40) rfl rfl rfl (WL.fa rfl (fld36_8 _ _ _) rfl (WL.gd (j := 40) rfl rfl rfl (WL.ld rfl (lR (f := .list (.st .output)) iy33 rb_8 (h.at_ hltb (hAb.sub 8 1))) rfl ?_)))
         cases hq8 : teq aa_8 ab_8 with
         | false =>
          refine WL.gd (j := 40) rfl rfl rfl (WL.cl Tryz.call42 rfl rfl (SEnc.call s42 hq8 ra_8 rb_8 h) ?_ nop)
          clear h
          rintro _ w1 ⟨rfl, h⟩
          refine WL.skip _ _ _ rfl (WL.nx (W.ret fun a ha => pR rfl ha rfl ⟨by rw [teq_false (fun e => by cases e; exact teq_ne hq8 rfl)], fw.trans h⟩))
         | true =>
          refine WL.gd (j := 40) rfl rfl rfl (WL.cl Tryz.call42 rfl rfl (SEnc.call s42 hq8 ra_8 rb_8 h) ?_ nop)
          clear h
          rintro _ w1 ⟨rfl, h⟩
          refine (WL.pick rfl rfl rfl (WL.mv rfl rfl ?_))
          refine WL.gd (j := 47) rfl rfl rfl (WL.fa rfl (fld36_9 _ _ _) rfl (WL.gd (j := 47) rfl rfl rfl (WL.ld rfl (lR (f := .list (.st .charMap)) iy34 ra_9 (h.at_ hlta (hAa.sub 9 1))) rfl ?_)))
          refine WL.gd (j := 47) rfl rfl rfl (WL.fa rfl (fld36_9 _ _ _) rfl (WL.gd (j := 47) rfl rfl rfl (WL.ld rfl (lR (f := .list (.st .charMap)) iy34 rb_9 (h.at_ hltb (hAb.sub 9 1))) rfl ?_)))
          cases hq9 : teq aa_9 ab_9 with
          | false =>
           refine WL.gd (j := 47) rfl rfl rfl (WL.cl Tryz.call43 rfl rfl (SEnc.call s43 hq9 ra_9 rb_9 h) ?_ nop)
           clear h
           rintro _ w1 ⟨rfl, h⟩
           refine (WL.pick rfl rfl rfl (WL.an rfl rfl (WL.nx (W.ret fun a ha => pR rfl ha rfl ⟨by rw [teq_false (fun e => by cases e; exact teq_ne hq9 rfl)], fw.trans h⟩))))
          | true =>
           refine WL.gd (j := 47) rfl rfl rfl (WL.cl Tryz.call43 rfl rfl (SEnc.call s43 hq9 ra_9 rb_9 h) ?_ nop)
           clear h
           rintro _ w1 ⟨rfl, h⟩
           refine (WL.pick rfl rfl rfl (WL.an rfl rfl (WL.nx (W.ret fun a ha => pR rfl ha rfl ⟨by rw [teq_true (by rw [teq_eq hq0, teq_eq hq1, teq_eq hq2, teq_eq hq3, teq_eq hq4, teq_eq hq5, teq_eq hq6, teq_eq hmm, teq_eq hq8, teq_eq hq9])], fw.trans h⟩))))
end Go.Sx
namespace Go.Sx
open Go.Proofs
theorem run_eql_ptr {P : Program} {w : World} {t e : TypeId} {a : Option Addr} (ht : ∀ w, (underlying t).run P w = .ok (.pointer e) w) :
 (binOp .eql t (.pointer a) (.pointer none)).run P w = .ok (.bool a.isNone) w := by
 have h1 : binOp .eql t (.pointer a) (.pointer none) = (do pure (.bool (← Op.equal t (.pointer a) (.pointer none)))) := rfl
 have h2 : (Op.equal t (.pointer a) (.pointer none)).run P w = .ok a.isNone w := equalIn_ptr (d := 9999) ht
 rw [h1]
 simp only [Sem.run_bind, h2, Result.andThen_ok, Sem.run_pure]
set_option maxHeartbeats 1000000 in
theorem s36 {t u : T} (ih : ∀ t' u', t'.wt < t.wt → SEnc 17 (.st .sheet) t' u') : SEnc 36 (.list (.st .use)) t u := by
 intro w S cs ds hr hk
 obtain ⟨la, rfl⟩ := hr.is_list
 obtain ⟨lb, rfl⟩ := hk.is_list
 obtain ⟨ga, capa, hva, hmla, hgeta⟩ := list_at hr
 obtain ⟨gb, capb, hvb, hmlb, hgetb⟩ := list_at hk
 rw [hva, hvb]
 obtain ⟨Z, hz, hzl⟩ : ∃ Z : List Value, (∀ w, (zeroValue 48).run Tryz.prog w = .ok (.agg Z.toArray) w) ∧ Z.length = 4 := ⟨_, Tryz.zeroValue48, rfl⟩
 refine cW 72 Tryz.func36 rfl rfl rfl ?_
 refine W.sq (W.rg (WL.an rfl rfl (WL.nx ?_)))
 refine W.sq (W.sq (W.rg (WL.mv rfl rfl (WL.len rfl (lS Tryz.underlying26) rfl (WL.mv rfl rfl (WL.len rfl (lS Tryz.underlying26) rfl (WL.bi rfl rfl (run_neq (c := decide (la.length ≠ lb.length)) neq_cast) rfl (WL.nx (W.cond rfl (fun ht => ?_) (fun hf => W.skip fun a ha => tN ?_))))))))))
 · have hne : la.length ≠ lb.length := of_decide_eq_true ht
   refine W.sq (W.rg (WL.an rfl rfl (WL.nx (W.ret fun a ha => tR (pR rfl ha rfl ⟨by rw [teq_len hne], Fr.refl _ _⟩)))))
 have hle : la.length = lb.length := Classical.byContradiction (of_decide_eq_false hf)
 refine W.run ha (W.sq (W.sq (W.rg (WL.an rfl rfl (WL.nx ?_)))))
 refine W.bk (W.loop (ι := Nat × World) (fun i => [(0, .slice ga la.length capa), (1, .slice gb lb.length capb), (5, .int .i64 (i.1 : Int))]) (fun i w' => w' = i.2 ∧ i.1 ≤ la.length ∧ F0 w w' ∧ ∀ j, j < i.1 → la[j]? = lb[j]?) (fun i => la.length - i.1)
  (0, w) ⟨rfl, rfl, rfl, trivial⟩ ⟨rfl, Nat.zero_le _, Fr.refl _ _, fun j hj => absurd hj (Nat.not_lt_zero j)⟩ ?_)
 rintro ⟨i, _⟩ w1 ⟨rfl, hi, h, hall⟩
 simp only at hi h hall ⊢
 refine W.sq (W.sq (W.rg (WL.mv rfl rfl (WL.mv rfl rfl (WL.len rfl (lS Tryz.underlying26) rfl (WL.bi rfl rfl (run_lss (c := decide (i < la.length)) (decide_eq_decide.2 Int.ofNat_lt.symm)) rfl (WL.nx (W.cond rfl (fun ht => W.skip fun a ha => tN ?_) (fun hf => W.exit fun a ha => tE (tE (eH (tN ?_))))))))))))
 · have hil : i < la.length := of_decide_eq_true ht
   obtain ⟨ta, hta⟩ : ∃ t, la[i]? = some t := ⟨_, List.getElem?_eq_getElem hil⟩
   obtain ⟨tb, htb⟩ : ∃ t, lb[i]? = some t := ⟨_, List.getElem?_eq_getElem (hle ▸ hil)⟩
   have hwa := T.wt_mem (List.mem_of_getElem? hta)
   obtain ⟨ba, oa, da, hixa, _, hlta, hAa, ra⟩ := hgeta i ta hta
   obtain ⟨bb, ob, db, hixb, _, hltb, hAb, rb⟩ := hgetb i tb htb
   refine W.run ha (W.sq (W.bk ?_))
   have honea := Rep.one _ _ _ ra
   obtain ⟨wa, hsta, aba, fa⟩ := put_new (w := w1) (z := .agg Z.toArray) (zs := Z) iy48 rfl hzl honea.1 honea.2
   refine W.sq (W.rg (WL.mv rfl rfl (WL.mv rfl rfl (WL.ix rfl rfl (hixa _ Tryz.underlying26 iy48 rfl) rfl (WL.ld rfl (lR (f := .st .use) iy48 ra (h.at_ hlta hAa)) rfl (WL.alloc (hz _) rfl (WL.so rfl rfl hsta (WL.nx ?_))))))))
   replace h : F0 w wa := h.trans fa
   have honeb := Rep.one _ _ _ rb
   obtain ⟨wb, hstb, abb, fb⟩ := put_new (w := wa) (z := .agg Z.toArray) (zs := Z) iy48 rfl hzl honeb.1 honeb.2
   refine W.sq (W.rg (WL.mv rfl rfl (WL.mv rfl rfl (WL.ix rfl rfl (hixb _ Tryz.underlying26 iy48 rfl) rfl (WL.ld rfl (lR (f := .st .use) iy48 rb (h.at_ hltb hAb)) rfl (WL.alloc (hz _) rfl (WL.so rfl rfl hstb (WL.nx ?_))))))))
   replace h : F0 w wb := h.trans fb
   replace aba := (fb.blk _ aba.lt (fun h => h)).trans aba
   have hbase := h
   clear h hsta hstb fa fb
   generalize wa.heap.size = bxb at abb ⊢
   generalize w1.heap.size = bxa at aba ⊢
   replace aba : Blk wb bxa da 48 := aba
   replace ra := ra.fresh hbase
   replace rb := rb.fresh hbase
   have hltxa := aba.lt
   have hltxb := abb.lt
   have hAxa := aba.all
   have hAxb := abb.all
   obtain ⟨w1, hw1⟩ : ∃ w1, w1 = wb := ⟨_, rfl⟩
   have h : F0 wb w1 := by rw [hw1]; exact Fr.refl _ _
   rw [← hw1]
   clear hw1
   refine W.weak [(0, .slice ga la.length capa), (1, .slice gb lb.length capb), (5, .int .i64 (i : Int)), (6, ptr bxa), (7, ptr bxb)] ⟨rfl, rfl, rfl, rfl, rfl, trivial⟩ ?_
   obtain ⟨fla, rfl, hlena, hFa⟩ := ra.st_inv
   obtain ⟨aa_0, fla, rfl, ra_0, hFa⟩ := hFa.cons_inv
   obtain ⟨aa_1, fla, rfl, ra_1, hFa⟩ := hFa.cons_inv
   obtain ⟨aa_2, fla, rfl, ra_2, hFa⟩ := hFa.cons_inv
   obtain ⟨aa_3, fla, rfl, ra_3, hFa⟩ := hFa.cons_inv
   obtain rfl := hFa.nil_inv
   simp only [Nat.zero_add, Nat.reduceAdd, Ty.size] at ra_0 ra_1 ra_2 ra_3
   obtain ⟨flb, rfl, hlenb, hFb⟩ := rb.st_inv
   obtain ⟨ab_0, flb, rfl, rb_0, hFb⟩ := hFb.cons_inv
   obtain ⟨ab_1, flb, rfl, rb_1, hFb⟩ := hFb.cons_inv
   obtain ⟨ab_2, flb, rfl, rb_2, hFb⟩ := hFb.cons_inv
   obtain ⟨ab_3, flb, rfl, rb_3, hFb⟩ := hFb.cons_inv
   obtain rfl := hFb.nil_inv
   simp only [Nat.zero_add, Nat.reduceAdd, Ty.size] at rb_0 rb_1 rb_2 rb_3
   refine W.sq (W.quiet (F0 wb) mixed (by kernel_rfl) h.drawn ?_)
   clear h
   refine (QL.fa rfl (fun w => fld48_0 w _ _) rfl ((QL.load rfl (fun w h => lR (f := .str) iy9 ra_0 (h.at_ hltxa (hAxa.sub 0 1))) rfl ?_)))
   refine (QL.fa rfl (fun w => fld48_0 w _ _) rfl ((QL.load rfl (fun w h => lR (f := .str) iy9 rb_0 (h.at_ hltxb (hAxb.sub 0 1))) rfl ?_)))
   cases hq0 : teq aa_0 ab_0 with
   | false =>
    refine (QL.binAny rfl rfl (neq9.guard ra_0 rb_0 _ _) (neq9.run' hq0 ra_0 rb_0) rfl ?_)
    refine QL.skip _ _ _ rfl (QL.next fun w1 h => W.ct rfl ?_)
    exact W.sq (W.rg (WL.an rfl rfl (WL.nx (W.ret fun a ha => bR (tR (tR (bR (tR (pR rfl ha rfl ⟨by rw [teq_at hta htb (fun e => by cases e; exact teq_ne hq0 rfl)], hbase.trans h⟩)))))))))
   | true =>
    refine (QL.binAny rfl rfl (neq9.guard ra_0 rb_0 _ _) (neq9.run' hq0 ra_0 rb_0) rfl ((QL.move rfl rfl ?_)))
    refine QL.gd (j := 5) rfl rfl rfl (QL.fa rfl (fun w => fld48_2 w _ _) rfl (QL.gd (j := 5) rfl rfl rfl (QL.load rfl (fun w h => lR (f := .int) iy3 ra_2 (h.at_ hltxa (hAxa.sub 2 1))) rfl ?_)))
    refine QL.gd (j := 5) rfl rfl rfl (QL.fa rfl (fun w => fld48_2 w _ _) rfl (QL.gd (j := 5) rfl rfl rfl (QL.load rfl (fun w h => lR (f := .int) iy3 rb_2 (h.at_ hltxb (hAxb.sub 2 1))) rfl ?_)))
    cases hq2 : teq aa_2 ab_2 with
    | false =>
     refine QL.gd (j := 5) rfl rfl rfl (QL.binAny rfl rfl (neq3.guard ra_2 rb_2 _ _) (neq3.run' hq2 ra_2 rb_2) rfl ?_)
     refine QL.skip _ _ _ rfl (QL.next fun w1 h => W.ct rfl ?_)
     exact W.sq (W.rg (WL.an rfl rfl (WL.nx (W.ret fun a ha => bR (tR (tR (bR (tR (pR rfl ha rfl ⟨by rw [teq_at hta htb (fun e => by cases e; exact teq_ne hq2 rfl)], hbase.trans h⟩)))))))))
    | true =>
     refine QL.gd (j := 5) rfl rfl rfl (QL.binAny rfl rfl (neq3.guard ra_2 rb_2 _ _) (neq3.run' hq2 ra_2 rb_2) rfl (QL.pick rfl rfl rfl (QL.move rfl rfl ?_)))
     refine QL.gd (j := 12) rfl rfl rfl (QL.fa rfl (fun w => fld48_3 w _ _) rfl (QL.gd (j := 12) rfl rfl rfl (QL.load rfl (fun w h => lR (f := .int) iy3 ra_3 (h.at_ hltxa (hAxa.sub 3 1))) rfl ?_)))
     refine QL.gd (j := 12) rfl rfl rfl (QL.fa rfl (fun w => fld48_3 w _ _) rfl (QL.gd (j := 12) rfl rfl rfl (QL.load rfl (fun w h => lR (f := .int) iy3 rb_3 (h.at_ hltxb (hAxb.sub 3 1))) rfl ?_)))
     cases hq3 : teq aa_3 ab_3 with
     | false =>
      refine QL.gd (j := 12) rfl rfl rfl (QL.binAny rfl rfl (neq3.guard ra_3 rb_3 _ _) (neq3.run' hq3 ra_3 rb_3) rfl ?_)
      refine QL.skip _ _ _ rfl (QL.next fun w1 h => W.ct rfl ?_)
      exact W.sq (W.rg (WL.an rfl rfl (WL.nx (W.ret fun a ha => bR (tR (tR (bR (tR (pR rfl ha rfl ⟨by rw [teq_at hta htb (fun e => by cases e; exact teq_ne hq3 rfl)], hbase.trans h⟩)))))))))
     | true =>
      refine QL.gd (j := 12) rfl rfl rfl (QL.binAny rfl rfl (neq3.guard ra_3 rb_3 _ _) (neq3.run' hq3 ra_3 rb_3) rfl (QL.pick rfl rfl rfl (QL.move rfl rfl ?_)))
      have rbool : ∀ b : Bool, Rep wb S (.bool b) .bool [.bool b] := fun b => by simp [Rep]
      have nb : ∀ (x y : Bool) (w : World), (binOp .neq 4 (.bool x) (.bool y)).run Tryz.prog w = .ok (.bool (!teq (.bool x) (.bool y))) w := fun x y w => neq4.run (rbool x) (rbool y) w
      rcases ra_1.ptr_inv with ⟨rfl, hpa⟩ | ⟨ua, bua, oua, dua, rfl, hpa, hSua, hltua, hAua, hlua, rua⟩ <;> rcases rb_1.ptr_inv with ⟨rfl, hpb⟩ | ⟨ub, bub, oub, dub, rfl, hpb, hSub, hltub, hAub, hlub, rub⟩
      · skip
        refine QL.gd (j := 19) rfl rfl rfl (QL.fa rfl (fun w => fld48_1 w _ _) rfl (QL.gd (j := 19) rfl rfl rfl (QL.load rfl (fun w h => load1 iy46 (at1 hpa (h.at_ hltxa (hAxa.sub 1 1)))) rfl ?_)))
        refine QL.gd (j := 19) rfl rfl rfl (QL.binAny rfl rfl (fun _ => guard_ptr) (fun _ => run_eql_ptr Tryz.runUnderlying46) rfl ?_)
        refine QL.gd (j := 19) rfl rfl rfl (QL.fa rfl (fun w => fld48_1 w _ _) rfl (QL.gd (j := 19) rfl rfl rfl (QL.load rfl (fun w h => load1 iy46 (at1 hpb (h.at_ hltxb (hAxb.sub 1 1)))) rfl ?_)))
        refine QL.gd (j := 19) rfl rfl rfl (QL.binAny rfl rfl (fun _ => guard_ptr) (fun _ => run_eql_ptr Tryz.runUnderlying46) rfl ?_)
        refine QL.gd (j := 19) rfl rfl rfl (QL.binAny (v := .bool false) rfl rfl (fun _ => by unfold eqGuard; rfl) (fun w => (nb true true w).trans (by rw [teq_true rfl]; rfl)) rfl ?_)
        refine QL.pick rfl rfl rfl (QL.move rfl rfl ?_)
        refine QL.gd (j := 28) rfl rfl rfl (QL.fa rfl (fun w => fld48_1 w _ _) rfl (QL.gd (j := 28) rfl rfl rfl (QL.load rfl (fun w h => load1 iy46 (at1 hpa (h.at_ hltxa (hAxa.sub 1 1)))) rfl ?_)))
        refine QL.gd (j := 28) rfl rfl rfl (QL.binAny rfl rfl (fun _ => guard_ptr) (fun _ => run_neq_ptr Tryz.runUnderlying46) rfl ?_)
        refine QL.gd (j := 28) rfl rfl rfl (QL.move rfl rfl ?_)
        refine QL.passed rfl rfl rfl rfl rfl (QL.passed rfl rfl rfl rfl rfl (QL.passed rfl rfl rfl rfl rfl (QL.passed rfl rfl rfl rfl rfl (QL.passed rfl rfl rfl rfl rfl (QL.passed rfl rfl rfl rfl rfl (QL.passed rfl rfl rfl rfl rfl (QL.passed rfl rfl rfl rfl rfl (QL.passed rfl rfl rfl rfl rfl (QL.passed rfl rfl rfl rfl rfl (QL.gd (j := 28) rfl rfl rfl (QL.pick rfl rfl rfl (QL.pick rfl rfl rfl ?_))))))))))))
        refine QL.next fun w1 h => W.cond_false rfl (W.skip fun a ha => bN (tN ?_))
        refine W.run ha (W.rg (WL.mv rfl rfl (WL.bi rfl rfl rfl rfl (WL.an rfl rfl (WL.nil fun a ha => tN ?_)))))
        exact ⟨(i + 1, w1), ha.weak ⟨rfl, rfl, congrArg some (inc_i64 (lt_len hil hmla)), trivial⟩, ⟨rfl, hil, hbase.trans h, step_eq hall hta htb (by rw [teq_eq hq0, teq_eq hq2, teq_eq hq3])⟩, Nat.sub_lt_sub_left hil (Nat.lt_succ_self i)⟩
      · skip
        refine QL.gd (j := 19) rfl rfl rfl (QL.fa rfl (fun w => fld48_1 w _ _) rfl (QL.gd (j := 19) rfl rfl rfl (QL.load rfl (fun w h => load1 iy46 (at1 hpa (h.at_ hltxa (hAxa.sub 1 1)))) rfl ?_)))
        refine QL.gd (j := 19) rfl rfl rfl (QL.binAny rfl rfl (fun _ => guard_ptr) (fun _ => run_eql_ptr Tryz.runUnderlying46) rfl ?_)
        refine QL.gd (j := 19) rfl rfl rfl (QL.fa rfl (fun w => fld48_1 w _ _) rfl (QL.gd (j := 19) rfl rfl rfl (QL.load rfl (fun w h => load1 iy46 (at1 hpb (h.at_ hltxb (hAxb.sub 1 1)))) rfl ?_)))
        refine QL.gd (j := 19) rfl rfl rfl (QL.binAny rfl rfl (fun _ => guard_ptr) (fun _ => run_eql_ptr Tryz.runUnderlying46) rfl ?_)
        refine QL.gd (j := 19) rfl rfl rfl (QL.binAny (v := .bool true) rfl rfl (fun _ => by unfold eqGuard; rfl) (fun w => (nb true false w).trans (by rw [teq_false (by simp)]; rfl)) rfl ?_)
        refine QL.skip _ _ _ rfl (QL.next fun w1 h => W.ct rfl ?_)
        exact W.sq (W.rg (WL.an rfl rfl (WL.nx (W.ret fun a ha => bR (tR (tR (bR (tR (pR rfl ha rfl ⟨by rw [teq_at hta htb (fun e => by cases e)], hbase.trans h⟩)))))))))
      · skip
        refine QL.gd (j := 19) rfl rfl rfl (QL.fa rfl (fun w => fld48_1 w _ _) rfl (QL.gd (j := 19) rfl rfl rfl (QL.load rfl (fun w h => load1 iy46 (at1 hpa (h.at_ hltxa (hAxa.sub 1 1)))) rfl ?_)))
        refine QL.gd (j := 19) rfl rfl rfl (QL.binAny rfl rfl (fun _ => guard_ptr) (fun _ => run_eql_ptr Tryz.runUnderlying46) rfl ?_)
        refine QL.gd (j := 19) rfl rfl rfl (QL.fa rfl (fun w => fld48_1 w _ _) rfl (QL.gd (j := 19) rfl rfl rfl (QL.load rfl (fun w h => load1 iy46 (at1 hpb (h.at_ hltxb (hAxb.sub 1 1)))) rfl ?_)))
        refine QL.gd (j := 19) rfl rfl rfl (QL.binAny rfl rfl (fun _ => guard_ptr) (fun _ => run_eql_ptr Tryz.runUnderlying46) rfl ?_)
        refine QL.gd (j := 19) rfl rfl rfl (QL.binAny (v := .bool true) rfl rfl (fun _ => by unfold eqGuard; rfl) (fun w => (nb false true w).trans (by rw [teq_false (by simp)]; rfl)) rfl ?_)
        refine QL.skip _ _ _ rfl (QL.next fun w1 h => W.ct rfl ?_)
        exact W.sq (W.rg (WL.an rfl rfl (WL.nx (W.ret fun a ha => bR (tR (tR (bR (tR (pR rfl ha rfl ⟨by rw [teq_at hta htb (fun e => by cases e)], hbase.trans h⟩)))))))))
      · skip
        refine QL.gd (j := 19) rfl rfl rfl (QL.fa rfl (fun w => fld48_1 w _ _) rfl (QL.gd (j := 19) rfl rfl rfl (QL.load rfl (fun w h => load1 iy46 (at1 hpa (h.at_ hltxa (hAxa.sub 1 1)))) rfl ?_)))
        refine QL.gd (j := 19) rfl rfl rfl (QL.binAny rfl rfl (fun _ => guard_ptr) (fun _ => run_eql_ptr Tryz.runUnderlying46) rfl ?_)
        refine QL.gd (j := 19) rfl rfl rfl (QL.fa rfl (fun w => fld48_1 w _ _) rfl (QL.gd (j := 19) rfl rfl rfl (QL.load rfl (fun w h => load1 iy46 (at1 hpb (h.at_ hltxb (hAxb.sub 1 1)))) rfl ?_)))
        refine QL.gd (j := 19) rfl rfl rfl (QL.binAny rfl rfl (fun _ => guard_ptr) (fun _ => run_eql_ptr Tryz.runUnderlying46) rfl ?_)
        refine QL.gd (j := 19) rfl rfl rfl (QL.binAny (v := .bool false) rfl rfl (fun _ => by unfold eqGuard; rfl) (fun w => (nb false false w).trans (by rw [teq_true rfl]; rfl)) rfl ?_)
        refine QL.pick rfl rfl rfl (QL.move rfl rfl ?_)
        refine QL.gd (j := 28) rfl rfl rfl (QL.fa rfl (fun w => fld48_1 w _ _) rfl (QL.gd (j := 28) rfl rfl rfl (QL.load rfl (fun w h => load1 iy46 (at1 hpa (h.at_ hltxa (hAxa.sub 1 1)))) rfl ?_)))
        refine QL.gd (j := 28) rfl rfl rfl (QL.binAny rfl rfl (fun _ => guard_ptr) (fun _ => run_neq_ptr Tryz.runUnderlying46) rfl ?_)
        refine QL.gd (j := 28) rfl rfl rfl (QL.move rfl rfl ?_)
        refine QL.gd (j := 32) rfl rfl rfl (QL.fa rfl (fun w => fld48_1 w _ _) rfl (QL.gd (j := 32) rfl rfl rfl (QL.load rfl (fun w h => load1 iy46 (at1 hpa (h.at_ hltxa (hAxa.sub 1 1)))) rfl ?_)))
        refine QL.gd (j := 32) rfl rfl rfl (QL.nilCheck rfl rfl (QL.gd (j := 32) rfl rfl rfl (QL.load rfl (fun w h => lR (f := .st .sheet) iy36 rua (h.at_ hltua hAua)) rfl ?_)))
        refine QL.gd (j := 32) rfl rfl rfl (QL.fa rfl (fun w => fld48_1 w _ _) rfl (QL.gd (j := 32) rfl rfl rfl (QL.load rfl (fun w h => load1 iy46 (at1 hpb (h.at_ hltxb (hAxb.sub 1 1)))) rfl ?_)))
        refine QL.gd (j := 32) rfl rfl rfl (QL.nilCheck rfl rfl (QL.gd (j := 32) rfl rfl rfl (QL.load rfl (fun w h => lR (f := .st .sheet) iy36 rub (h.at_ hltub hAub)) rfl ?_)))
        have hlw : ua.wt < (T.list la).wt := Nat.lt_of_le_of_lt (by simp [T.wt]) (fld_lt (t := .ptr ua) (by simp) hwa (Nat.le_refl _))
        cases hq1 : teq ua ub with
        | false =>
         refine QL.gd (j := 32) rfl rfl rfl (QL.call Tryz.call17 rfl rfl (SEnc.quiet (ih _ _ hlw) hq1 rua rub) (QL.gd (j := 32) rfl rfl rfl (QL.not rfl rfl (QL.gd (j := 28) rfl rfl rfl (QL.pick rfl rfl rfl (QL.pick rfl rfl rfl ?_))))))
         refine QL.next fun w1 h => W.ct rfl ?_
         exact W.sq (W.rg (WL.an rfl rfl (WL.nx (W.ret fun a ha => bR (tR (tR (bR (tR (pR rfl ha rfl ⟨by rw [teq_at hta htb (fun e => by cases e; exact teq_ne hq1 rfl)], hbase.trans h⟩)))))))))
        | true =>
         refine QL.gd (j := 32) rfl rfl rfl (QL.call Tryz.call17 rfl rfl (SEnc.quiet (ih _ _ hlw) hq1 rua rub) (QL.gd (j := 32) rfl rfl rfl (QL.not rfl rfl (QL.gd (j := 28) rfl rfl rfl (QL.pick rfl rfl rfl (QL.pick rfl rfl rfl ?_))))))
         refine QL.next fun w1 h => W.cond_false rfl (W.skip fun a ha => bN (tN ?_))
         refine W.run ha (W.rg (WL.mv rfl rfl (WL.bi rfl rfl rfl rfl (WL.an rfl rfl (WL.nil fun a ha => tN ?_)))))
         exact ⟨(i + 1, w1), ha.weak ⟨rfl, rfl, congrArg some (inc_i64 (lt_len hil hmla)), trivial⟩, ⟨rfl, hil, hbase.trans h, step_eq hall hta htb (by rw [teq_eq hq0, teq_eq hq2, teq_eq hq3, teq_eq hq1])⟩, Nat.sub_lt_sub_left hil (Nat.lt_succ_self i)⟩
 · have hend : i = la.length := Nat.le_antisymm hi (Nat.le_of_not_lt (of_decide_eq_false hf))
   exact W.run ha (W.sq (W.rg (WL.an rfl rfl (WL.nx (W.ret fun a ha => pR rfl ha rfl ⟨by rw [teq_all hle hend hall], h⟩)))))
end Go.Sx
namespace Go.Sx
open Go.Proofs
theorem s17_all : ∀ (N : Nat) (t u : T), t.wt ≤ N → SEnc 17 (.st .sheet) t u := by
 intro N
 induction N using Nat.strongRecOn with
 | _ N IH =>
 intro t u hN
 exact s17 (fun t' u' h' => s36 (fun t2 u2 h2 => IH t2.wt (Nat.lt_of_lt_of_le (Nat.lt_trans h2 h') hN) t2 u2 (Nat.le_refl _)))
theorem same24 {t u : T} : SEnc 17 (.st .sheet) t u := s17_all t.wt t u (Nat.le_refl _)
end Go.Sx
namespace Go.Sx
theorem num_step {p : List UInt8} {n m : Nat} {r r' : List UInt8} (h : p ++ num n ++ r = p ++ num m ++ r') : n = m ∧ r = r' := by
 rw [List.append_assoc, List.append_assoc] at h
 exact num_pf _ _ _ _ (List.append_cancel_left h)
theorem str_idx (s : WS) (x : ByteArray) : ∃ k, (s.str x).b = s.b ++ num k ∧ (s.str x).tab[k]? = some x ∧ ((k < s.tab.length ∧ (s.str x).tab = s.tab) ∨ (k = s.tab.length ∧ (s.str x).tab = s.tab ++ [x])) := by
 cases hx : s.tab.findIdx? (fun y => decide (y = x)) with
 | some k =>
  have hs : s.str x = s.num k := by unfold WS.str; rw [hx]
  obtain ⟨h1, h2⟩ := idx_lt hx
  rw [hs]
  exact ⟨k, rfl, h2, .inl ⟨h1, rfl⟩⟩
 | none =>
  have hs : s.str x = { s with tab := s.tab ++ [x] }.num s.tab.length := by unfold WS.str; rw [hx]
  rw [hs]
  exact ⟨s.tab.length, rfl, by simp [WS.num], .inr ⟨rfl, rfl⟩⟩
mutual
theorem enc_ext {most long : Nat} : ∀ (t : T) (s s' : WS), enc most long t s = some s' → ∃ c, s'.b = s.b ++ c
 | .int n, s, s', h => by simp only [enc, Option.some.injEq] at h; subst h; exact ⟨_, rfl⟩
 | .bool n, s, s', h => by simp only [enc, Option.some.injEq] at h; subst h; exact ⟨_, rfl⟩
 | .nil, s, s', h => by simp only [enc, Option.some.injEq] at h; subst h; exact ⟨_, rfl⟩
 | .str x, s, s', h => by
  simp only [enc, Option.some.injEq] at h; subst h
  obtain ⟨k, h1, _⟩ := str_idx s x
  exact ⟨_, h1⟩
 | .ptr t, s, s', h => by
  simp only [enc] at h
  obtain ⟨c, hc⟩ := enc_ext t (s.num 1) _ h
  exact ⟨num 1 ++ c, by rw [hc]; simp only [WS.num, List.append_assoc]⟩
 | .list l, s, s', h => by
  simp only [enc] at h
  obtain ⟨c, hc⟩ := encL_ext l (s.num l.length) _ h
  exact ⟨num l.length ++ c, by rw [hc]; simp only [WS.num, List.append_assoc]⟩
 | .agg sn l, s, s', h => by
  simp only [enc] at h
  split at h
  · split at h
    · cases h
    · simp only [Option.map_eq_some_iff] at h
      obtain ⟨u, hu, rfl⟩ := h
      exact encL_ext l { s with nest := s.nest + 1 } u hu
  · exact encL_ext l s _ h
theorem encL_ext {most long : Nat} : ∀ (l : List T) (s s' : WS), encL most long l s = some s' → ∃ c, s'.b = s.b ++ c
 | [], s, s', h => by simp only [encL, Option.some.injEq] at h; subst h; exact ⟨[], by simp⟩
 | t :: l, s, s', h => by
  simp only [encL, Option.bind_eq_some_iff] at h
  obtain ⟨u, hu, h⟩ := h
  obtain ⟨c, hc⟩ := enc_ext t _ _ hu
  obtain ⟨d, hd⟩ := encL_ext l _ _ h
  exact ⟨c ++ d, by rw [hd, hc, List.append_assoc]⟩
end
theorem num_ext {s s' : WS} {n : Nat} {c r : List UInt8} (h : s'.b = (s.num n).b ++ c) : s'.b ++ r = s.b ++ num n ++ (c ++ r) := by
 rw [h]; simp only [WS.num, List.append_assoc]
mutual
theorem enc_inj {tab : List ByteArray} {m1 l1 m2 l2 : Nat} : ∀ (t u : T) (f : Ty) (a b a' b' : WS) (r r' : List UInt8), Kd t f → Kd u f → a.b = b.b → a.tab = b.tab →
 enc m1 l1 t a = some a' → enc m2 l2 u b = some b' → a'.tab <+: tab → b'.tab <+: tab → a'.b ++ r = b'.b ++ r' → t = u ∧ a'.b = b'.b ∧ a'.tab = b'.tab
 | .int n, u, f, a, b, a', b', r, r', hk, hk', e1, e2, h, h', p, p', hb => by
  cases f <;> simp only [Kd] at hk
  cases u <;> simp only [Kd] at hk'
  simp only [enc, Option.some.injEq] at h h'; subst h h'
  simp only [WS.num, e1] at hb ⊢
  obtain ⟨k, _⟩ := num_step hb
  have := zig_inj hk hk' k
  subst this
  exact ⟨rfl, rfl, e2⟩
 | .bool n, u, f, a, b, a', b', r, r', hk, hk', e1, e2, h, h', p, p', hb => by
  cases f <;> simp only [Kd] at hk
  cases u <;> simp only [Kd] at hk'
  rename_i m
  simp only [enc, Option.some.injEq] at h h'; subst h h'
  simp only [WS.num, e1] at hb ⊢
  obtain ⟨k, _⟩ := num_step hb
  have : n = m := by cases n <;> cases m <;> first | rfl | (exact absurd k (by decide))
  subst this
  exact ⟨rfl, rfl, e2⟩
 | .str x, u, f, a, b, a', b', r, r', hk, hk', e1, e2, h, h', p, p', hb => by
  cases f <;> simp only [Kd] at hk
  cases u <;> simp only [Kd] at hk'
  rename_i y
  simp only [enc, Option.some.injEq] at h h'; subst h h'
  obtain ⟨k, h1, h2, h3⟩ := str_idx a x
  obtain ⟨k', h4, h5, h6⟩ := str_idx b y
  rw [h1, h4, e1] at hb
  obtain ⟨rfl, _⟩ := num_step hb
  have := (prefix_get p h2).symm.trans (prefix_get p' h5)
  cases this
  refine ⟨rfl, by rw [h1, h4, e1], ?_⟩
  rw [e2] at h3
  rcases h3 with ⟨g1, g2⟩ | ⟨g1, g2⟩
  · rcases h6 with ⟨g3, g4⟩ | ⟨g3, g4⟩
    · rw [g2, g4]
    · omega
  · rcases h6 with ⟨g3, g4⟩ | ⟨g3, g4⟩
    · omega
    · rw [g2, g4]
 | .nil, u, f, a, b, a', b', r, r', hk, hk', e1, e2, h, h', p, p', hb => by
  cases f <;> simp only [Kd] at hk
  simp only [enc, Option.some.injEq] at h; subst h
  cases u <;> simp only [Kd] at hk'
  · simp only [enc, Option.some.injEq] at h'; subst h'
    exact ⟨rfl, by simp only [WS.num, e1], e2⟩
  · simp only [enc] at h'
    obtain ⟨c, hc⟩ := enc_ext _ _ _ h'
    rw [num_ext hc] at hb
    simp only [WS.num, e1] at hb
    have := (num_step hb).1; omega
 | .ptr t, u, f, a, b, a', b', r, r', hk, hk', e1, e2, h, h', p, p', hb => by
  cases f <;> simp only [Kd] at hk
  simp only [enc] at h
  cases u <;> simp only [Kd] at hk'
  · simp only [enc, Option.some.injEq] at h'; subst h'
    obtain ⟨c, hc⟩ := enc_ext _ _ _ h
    rw [num_ext hc] at hb
    simp only [WS.num, e1] at hb
    have := (num_step hb).1; omega
  · simp only [enc] at h'
    obtain ⟨k1, k2, k3⟩ := enc_inj t _ _ (a.num 1) (b.num 1) a' b' r r' hk hk' (by simp only [WS.num, e1]) e2 h h' p p' hb
    exact ⟨by rw [k1], k2, k3⟩
 | .list l, u, f, a, b, a', b', r, r', hk, hk', e1, e2, h, h', p, p', hb => by
  cases f <;> simp only [Kd] at hk
  simp only [enc] at h
  cases u <;> simp only [Kd] at hk'
  rename_i l'
  simp only [enc] at h'
  obtain ⟨c, hc⟩ := encL_ext _ _ _ h
  obtain ⟨c', hc'⟩ := encL_ext _ _ _ h'
  have hn := hb
  rw [num_ext hc, num_ext hc', e1] at hn
  have hl := (num_step hn).1
  obtain ⟨k1, k2, k3⟩ := encL_inj l l' _ (a.num l.length) (b.num l'.length) a' b' r r' hl hk hk' (by simp only [WS.num, e1, hl]) e2 h h' p p' hb
  exact ⟨by rw [k1], k2, k3⟩
 | .agg sn l, u, f, a, b, a', b', r, r', hk, hk', e1, e2, h, h', p, p', hb => by
  cases f <;> simp only [Kd] at hk
  cases u <;> simp only [Kd] at hk'
  rename_i sn2 l'
  obtain ⟨rfl, hk⟩ := hk
  obtain ⟨rfl, hk'⟩ := hk'
  simp only [enc] at h h'
  cases hd : sn2.deep with
  | false =>
   rw [hd] at h h'
   obtain ⟨k1, k2, k3⟩ := encF_inj l l' _ a b a' b' r r' hk hk' e1 e2 h h' p p' hb
   exact ⟨by rw [k1], k2, k3⟩
  | true =>
   rw [hd] at h h'
   simp only at h h'
   split at h
   · cases h
   · split at h'
     · cases h'
     · simp only [Option.map_eq_some_iff] at h h'
       obtain ⟨v, hv, rfl⟩ := h
       obtain ⟨v', hv', rfl⟩ := h'
       obtain ⟨k1, k2, k3⟩ := encF_inj l l' _ { a with nest := a.nest + 1 } { b with nest := b.nest + 1 } v v' r r' hk hk' e1 e2 hv hv' p p' hb
       exact ⟨by rw [k1], k2, k3⟩
theorem encL_inj {tab : List ByteArray} {m1 l1 m2 l2 : Nat} : ∀ (l l' : List T) (e : Ty) (a b a' b' : WS) (r r' : List UInt8), l.length = l'.length → KdL l e → KdL l' e → a.b = b.b → a.tab = b.tab →
 encL m1 l1 l a = some a' → encL m2 l2 l' b = some b' → a'.tab <+: tab → b'.tab <+: tab → a'.b ++ r = b'.b ++ r' → l = l' ∧ a'.b = b'.b ∧ a'.tab = b'.tab
 | [], l', e, a, b, a', b', r, r', hl, hk, hk', e1, e2, h, h', p, p', hb => by
  obtain rfl : l' = [] := List.eq_nil_of_length_eq_zero hl.symm
  simp only [encL, Option.some.injEq] at h h'; subst h h'
  exact ⟨rfl, e1, e2⟩
 | t :: l, [], e, a, b, a', b', r, r', hl, hk, hk', e1, e2, h, h', p, p', hb => by cases hl
 | t :: l, u :: l', e, a, b, a', b', r, r', hl, hk, hk', e1, e2, h, h', p, p', hb => by
  simp only [KdL] at hk hk'
  simp only [encL, Option.bind_eq_some_iff] at h h'
  obtain ⟨v, hv, h⟩ := h
  obtain ⟨v', hv', h'⟩ := h'
  obtain ⟨c, hc⟩ := encL_ext _ _ _ h
  obtain ⟨c', hc'⟩ := encL_ext _ _ _ h'
  have hm := (encL_mono l _ _ h).1.trans p
  have hm' := (encL_mono l' _ _ h').1.trans p'
  obtain ⟨rfl, k2, k3⟩ := enc_inj t u e a b v v' (c ++ r) (c' ++ r') hk.1 hk'.1 e1 e2 hv hv' hm hm' (by rw [← List.append_assoc, ← List.append_assoc, ← hc, ← hc']; exact hb)
  obtain ⟨rfl, k5, k6⟩ := encL_inj l l' e v v' a' b' r r' (by simpa using hl) hk.2 hk'.2 k2 k3 h h' p p' hb
  exact ⟨rfl, k5, k6⟩
theorem encF_inj {tab : List ByteArray} {m1 l1 m2 l2 : Nat} : ∀ (l l' : List T) (fs : List Ty) (a b a' b' : WS) (r r' : List UInt8), KdF l fs → KdF l' fs → a.b = b.b → a.tab = b.tab →
 encL m1 l1 l a = some a' → encL m2 l2 l' b = some b' → a'.tab <+: tab → b'.tab <+: tab → a'.b ++ r = b'.b ++ r' → l = l' ∧ a'.b = b'.b ∧ a'.tab = b'.tab
 | [], l', fs, a, b, a', b', r, r', hk, hk', e1, e2, h, h', p, p', hb => by
  have h1 := hk.len
  have h2 := hk'.len
  obtain rfl : l' = [] := List.eq_nil_of_length_eq_zero (by rw [h2, ← h1]; rfl)
  simp only [encL, Option.some.injEq] at h h'; subst h h'
  exact ⟨rfl, e1, e2⟩
 | t :: l, [], fs, a, b, a', b', r, r', hk, hk', e1, e2, h, h', p, p', hb => by
  have h1 := hk.len
  have h2 := hk'.len
  rw [← h1] at h2; cases h2
 | t :: l, u :: l', [], a, b, a', b', r, r', hk, hk', e1, e2, h, h', p, p', hb => by simp only [KdF] at hk
 | t :: l, u :: l', f :: fs, a, b, a', b', r, r', hk, hk', e1, e2, h, h', p, p', hb => by
  simp only [KdF] at hk hk'
  simp only [encL, Option.bind_eq_some_iff] at h h'
  obtain ⟨v, hv, h⟩ := h
  obtain ⟨v', hv', h'⟩ := h'
  obtain ⟨c, hc⟩ := encL_ext _ _ _ h
  obtain ⟨c', hc'⟩ := encL_ext _ _ _ h'
  have hm := (encL_mono l _ _ h).1.trans p
  have hm' := (encL_mono l' _ _ h').1.trans p'
  obtain ⟨rfl, k2, k3⟩ := enc_inj t u f a b v v' (c ++ r) (c' ++ r') hk.1 hk'.1 e1 e2 hv hv' hm hm' (by rw [← List.append_assoc, ← List.append_assoc, ← hc, ← hc']; exact hb)
  obtain ⟨rfl, k5, k6⟩ := encF_inj l l' fs v v' a' b' r r' hk.2 hk'.2 k2 k3 h h' p p' hb
  exact ⟨rfl, k5, k6⟩
end
theorem entries_cut : ∀ (l l' : List ByteArray) (r r' : List UInt8), l.length = l'.length → entries l ++ r = entries l' ++ r' → l = l' ∧ r = r'
 | [], l', r, r', hl, h => by
  obtain rfl : l' = [] := List.eq_nil_of_length_eq_zero hl.symm
  exact ⟨rfl, h⟩
 | x :: l, [], r, r', hl, h => by cases hl
 | x :: l, y :: l', r, r', hl, h => by
  simp only [entries, List.append_assoc] at h
  obtain ⟨rfl, h2⟩ := entry_pf h
  obtain ⟨rfl, h3⟩ := entries_cut l l' r r' (by simpa using hl) h2
  exact ⟨rfl, h3⟩
theorem sealed_inj {a b : List UInt8} (h : sealed a = sealed b) : a = b := by
 have hl := congrArg List.length h
 rw [sealed_len, sealed_len] at hl
 unfold sealed at h
 exact (List.append_inj h (by omega)).1
theorem full_inj {a b : WS} (h : fullOf a = fullOf b) : a.tab = b.tab ∧ a.b = b.b := by
 have h := sealed_inj h
 simp only [List.append_assoc] at h
 obtain ⟨h1, h⟩ := num_pf _ _ _ _ (List.append_cancel_left h)
 exact entries_cut _ _ _ _ h1 h
theorem bytes_inj {m1 l1 m2 l2 : Nat} {t u : T} {x : List UInt8} (hk : Kd t (.st .sheet)) (hk' : Kd u (.st .sheet)) (h : bytesOf m1 l1 t = some x) (h' : bytesOf m2 l2 u = some x) : t = u := by
 unfold bytesOf at h h'
 simp only [Option.bind_eq_some_iff] at h h'
 obtain ⟨a, ha, h⟩ := h
 obtain ⟨b, hb, h'⟩ := h'
 split at h
 · cases h
 · split at h'
   · cases h'
   · simp only [Option.some.injEq] at h h'
     obtain ⟨e1, e2⟩ := full_inj (h.trans h'.symm)
     exact (enc_inj (tab := a.tab) t u _ ws0 ws0 a b [] [] hk hk' rfl rfl ha hb (List.prefix_refl _) (by rw [e1]; exact List.prefix_refl _) (by rw [e2])).1
mutual
theorem enc_le {m m' long long' : Nat} (hm : m ≤ m') (hl : long ≤ long') : ∀ (t : T) (s s' : WS), enc m long t s = some s' → enc m' long' t s = some s'
 | .int n, s, s', h => by simp only [enc] at h ⊢; exact h
 | .bool n, s, s', h => by simp only [enc] at h ⊢; exact h
 | .nil, s, s', h => by simp only [enc] at h ⊢; exact h
 | .str x, s, s', h => by simp only [enc] at h ⊢; exact h
 | .ptr t, s, s', h => by simp only [enc] at h ⊢; exact enc_le hm hl t _ _ h
 | .list l, s, s', h => by simp only [enc] at h ⊢; exact encL_le hm hl l _ _ h
 | .agg sn l, s, s', h => by
  simp only [enc] at h ⊢
  cases hd : sn.deep with
  | false => rw [hd] at h; exact encL_le hm hl l _ _ h
  | true =>
   rw [hd] at h
   simp only at h ⊢
   split at h
   · cases h
   · rename_i hno
     simp only [Option.map_eq_some_iff] at h
     obtain ⟨u, hu, rfl⟩ := h
     rw [if_neg (by omega), encL_le hm hl l _ _ hu]; rfl
theorem encL_le {m m' long long' : Nat} (hm : m ≤ m') (hl : long ≤ long') : ∀ (l : List T) (s s' : WS), encL m long l s = some s' → encL m' long' l s = some s'
 | [], s, s', h => by simp only [encL] at h ⊢; exact h
 | t :: l, s, s', h => by
  simp only [encL, Option.bind_eq_some_iff] at h ⊢
  obtain ⟨u, hu, h⟩ := h
  exact ⟨u, enc_le hm hl t _ _ hu, encL_le hm hl l _ _ h⟩
end
mutual
theorem enc_far {m m' long : Nat} : ∀ (t : T) (s : WS), s.nest + t.wt ≤ m → s.nest + t.wt ≤ m' → enc m long t s = enc m' long t s
 | .int n, s, h, h' => by simp only [enc]
 | .bool n, s, h, h' => by simp only [enc]
 | .nil, s, h, h' => by simp only [enc]
 | .str x, s, h, h' => by simp only [enc]
 | .ptr t, s, h, h' => by
  simp only [enc, T.wt] at *
  exact enc_far t (s.num 1) (by simp only [WS.num]; omega) (by simp only [WS.num]; omega)
 | .list l, s, h, h' => by
  simp only [enc, T.wt] at *
  exact encL_far l (s.num l.length) (by simp only [WS.num]; omega) (by simp only [WS.num]; omega)
 | .agg sn l, s, h, h' => by
  simp only [enc, T.wt] at *
  cases hd : sn.deep with
  | false => exact encL_far l s (by omega) (by omega)
  | true =>
   simp only
   rw [encL_far (m := m) (m' := m') l { s with nest := s.nest + 1 } (by simp only; omega) (by simp only; omega)]
   by_cases hb : long < s.b.length
   · rw [if_pos (.inr hb), if_pos (.inr hb)]
   · rw [if_neg (by omega), if_neg (by omega)]
theorem encL_far {m m' long : Nat} : ∀ (l : List T) (s : WS), s.nest + T.wts l ≤ m → s.nest + T.wts l ≤ m' → encL m long l s = encL m' long l s
 | [], s, h, h' => by simp only [encL]
 | t :: l, s, h, h' => by
  simp only [encL, T.wts] at *
  rw [enc_far (m := m) (m' := m') t s (by omega) (by omega)]
  cases hu : enc m' long t s with
  | none => rfl
  | some u =>
   have := (enc_mono t _ _ hu).2
   simp only [Option.bind_some]
   exact encL_far l u (by omega) (by omega)
end
theorem fits_bytes {t : T} (hu : 11 * t.wt ≤ 2 ^ 40) : bytesOf 9223372036854775807 67108864 t = bytesOf 4611686018427387904 67108864 t := by
 unfold bytesOf
 rw [enc_far (m := 9223372036854775807) (m' := 4611686018427387904) t ws0 (by simp only [ws0]; omega) (by simp only [ws0]; omega)]
theorem same_fits {t u : T} (hk : Kd t (.st .sheet)) (hk' : Kd u (.st .sheet)) (ht : 11 * t.wt ≤ 2 ^ 40) (hu : 11 * u.wt ≤ 2 ^ 40) : sameOf t u = (fitsOf t && (fitsOf u && teq t u)) := by
 unfold sameOf fitsOf
 rw [fits_bytes ht, fits_bytes hu]
 cases h1 : bytesOf 4611686018427387904 67108864 t with
 | none => rfl
 | some x =>
  cases h2 : bytesOf 4611686018427387904 67108864 u with
  | none => simp
  | some y =>
   simp only [Option.isSome_some, Bool.true_and]
   by_cases e : x = y
   · subst e
     rw [teq_true (bytes_inj hk hk' h1 h2)]; simp
   · rw [teq_false (fun e' => e (by subst e'; rw [h1] at h2; exact Option.some.inj h2))]; simp [e]
theorem encode_bytes {t : T} {bs : List UInt8} (h : encodeOf t = some bs) : bytesOf 9223372036854775807 67108864 t = some bs := by
 unfold encodeOf at h
 simp only [Option.bind_eq_some_iff] at h
 obtain ⟨x, hx, h⟩ := h
 split at h
 · cases h
 · simp only [Option.some.injEq] at h
   subst h
   unfold bytesOf at hx ⊢
   simp only [Option.bind_eq_some_iff] at hx ⊢
   obtain ⟨s, hs, hx⟩ := hx
   split at hx
   · cases hx
   · exact ⟨s, enc_le (by omega) (by omega) t _ _ hs, by rw [if_neg (by omega)]; exact hx⟩
theorem same_encode {t u : T} {x y : List UInt8} (h : encodeOf t = some x) (h' : encodeOf u = some y) : sameOf t u = decide (x = y) := by
 unfold sameOf; rw [encode_bytes h, encode_bytes h']
theorem dec_unique {t u : T} {bs : List UInt8} (hk : Kd t (.st .sheet)) (hk' : Kd u (.st .sheet)) (h : encodeOf t = some bs) (d : DecOk bs u) : u = t :=
 bytes_inj hk' hk (encode_bytes (encode_of_dec d)) (encode_bytes h)
end Go.Sx
namespace Go.Sx
open Go.Proofs
theorem run_leq' {w : World} {t : TypeId} {a b : Int} {c : Bool} (h : decide (a ≤ b) = c) : (binOp .leq t (.int .i64 a) (.int .i64 b)).run Tryz.prog w = .ok (.bool c) w := by
 rw [← h]; rfl
set_option maxHeartbeats 1000000 in
theorem c22 {w : World} {S : Nat → Prop} {t u : T} {cs ds : List Value} (hr : Rep w S t (.st .sheet) cs) (hk : Rep w S u (.st .sheet) ds) (hu : 11 * t.wt ≤ 2 ^ 40) (hu2 : 11 * u.wt ≤ 2 ^ 40) :
 Calls Tryz.prog 22 [.agg cs.toArray, .agg ds.toArray].toArray w (End (fun v w' => v = .bool (sameOf t u) ∧ F0 w w') (fun _ _ => False)) := by
 rw [same_fits (Rep.kd _ _ _ hr) (Rep.kd _ _ _ hk) hu hu2]
 have hlen : cs.length = 10 := hr.st_inv.elim fun l h => h.2.1
 have hlen2 : ds.length = 10 := hk.st_inv.elim fun l h => h.2.1
 refine cW 16 Tryz.func22 rfl rfl rfl ?_
 refine W.sq (W.rg (WL.box (v := .agg cs.toArray) rfl rfl ?_))
 have fa : F0 w (w.alloc (.cells cs.toArray 36)) := Fr.alloc _ _ _
 have aba : Blk (w.alloc (.cells cs.toArray 36)) w.heap.size cs 36 := Blk.alloc_new
 show WL _ _ _ _ _ _ _ (w.alloc (.cells cs.toArray 36))
 generalize w.alloc (.cells cs.toArray 36) = wa at fa aba ⊢
 generalize w.heap.size = bxa at aba ⊢
 refine WL.box (v := .agg ds.toArray) rfl rfl ?_
 have fb : F0 wa (wa.alloc (.cells ds.toArray 36)) := Fr.alloc _ _ _
 have abb : Blk (wa.alloc (.cells ds.toArray 36)) wa.heap.size ds 36 := Blk.alloc_new
 show WL _ _ _ _ _ _ _ (wa.alloc (.cells ds.toArray 36))
 generalize wa.alloc (.cells ds.toArray 36) = wb at fb abb ⊢
 generalize wa.heap.size = bxb at abb ⊢
 have fw : F0 w wb := fa.trans fb
 replace aba : Blk wb bxa cs 36 := (fb.blk _ aba.lt (fun h => h)).trans aba
 have ra := hr.fresh fw
 have rb := hk.fresh fw
 refine WL.an rfl rfl (WL.nx ?_)
 refine W.sq (W.rg (WL.ld rfl (loadN iy36 hlen aba.all) rfl (WL.cl Tryz.call45 rfl rfl (c45 ra hu) ?_ nop)))
 rintro _ w1 ⟨rfl, f1⟩
 refine WL.mv rfl rfl ?_
 cases hf : fitsOf t with
 | false =>
  exact WL.skip _ _ _ rfl (WL.nx (W.ret fun a ha => pR rfl ha rfl ⟨rfl, fw.trans f1⟩))
 | true =>
  have abb1 : Blk w1 bxb ds 36 := (f1.blk _ abb.lt (fun h => h)).trans abb
  refine WL.gd (j := 2) rfl rfl rfl (WL.ld rfl (loadN iy36 hlen2 abb1.all) rfl (WL.gd (j := 2) rfl rfl rfl (WL.cl Tryz.call45 rfl rfl (c45 (rb.fresh f1) hu2) ?_ nop)))
  rintro _ w2 ⟨rfl, f2⟩
  have f12 := f1.trans f2
  refine WL.pick rfl rfl rfl (WL.mv rfl rfl ?_)
  cases hg : fitsOf u with
  | false =>
   exact WL.skip _ _ _ rfl (WL.nx (W.ret fun a ha => pR rfl ha rfl ⟨rfl, fw.trans f12⟩))
  | true =>
   have aba2 : Blk w2 bxa cs 36 := (f12.blk _ aba.lt (fun h => h)).trans aba
   have abb2 : Blk w2 bxb ds 36 := (f12.blk _ abb.lt (fun h => h)).trans abb
   refine WL.gd (j := 6) rfl rfl rfl (WL.ld rfl (loadN iy36 hlen aba2.all) rfl (WL.gd (j := 6) rfl rfl rfl (WL.ld rfl (loadN iy36 hlen2 abb2.all) rfl ?_)))
   refine WL.gd (j := 6) rfl rfl rfl (WL.cl Tryz.call17 rfl rfl (same24 (ra.fresh f12) (rb.fresh f12)) ?_ nop)
   rintro _ w3 ⟨rfl, f3⟩
   exact WL.pick rfl rfl rfl (WL.an rfl rfl (WL.nx (W.ret fun a ha => pR rfl ha rfl ⟨rfl, (fw.trans f12).trans f3⟩)))
theorem eres_val {w w' : World} {r : Option (List UInt8)} {v : Value} (h : ERes w r v w') : ∃ vb g c, v = .tuple #[vb, .int .i64 (if r.isSome then 0 else 2)] ∧ vb = .slice g (r.getD []).length c ∧ Bts w' vb (r.getD []) ∧ F0 w w' := by
 obtain ⟨vb, f, h⟩ := h
 cases r with
 | none =>
  obtain ⟨rfl, rfl⟩ := h
  exact ⟨_, none, 0, rfl, rfl, ⟨Nat.zero_le _, .inl ⟨rfl, rfl⟩⟩, f.none⟩
 | some bs =>
  obtain ⟨rfl, h⟩ := h
  obtain ⟨g, c, rfl, _⟩ := row_val h
  exact ⟨_, g, c, rfl, rfl, Bts.of_row h, f.none⟩
set_option maxHeartbeats 1000000 in
theorem c20 {w : World} {S : Nat → Prop} {t : T} {cs : List Value} (hr : Rep w S t (.st .sheet) cs) (hu : 11 * t.wt ≤ 2 ^ 40) :
 Calls Tryz.prog 20 [.agg cs.toArray].toArray w (End (fun v w' => v = .bool true ∧ F0 w w') (fun _ _ => False)) := by
 have hlen : cs.length = 10 := hr.st_inv.elim fun l h => h.2.1
 refine cW 27 Tryz.func20 rfl rfl rfl ?_
 refine W.sq (W.rg (WL.box (v := .agg cs.toArray) rfl rfl ?_))
 have fa : F0 w (w.alloc (.cells cs.toArray 36)) := Fr.alloc _ _ _
 have aba : Blk (w.alloc (.cells cs.toArray 36)) w.heap.size cs 36 := Blk.alloc_new
 show WL _ _ _ _ _ _ _ (w.alloc (.cells cs.toArray 36))
 generalize w.alloc (.cells cs.toArray 36) = wa at fa aba ⊢
 generalize w.heap.size = bxa at aba ⊢
 have ra := hr.fresh fa
 refine WL.an rfl rfl (WL.nx ?_)
 refine W.sq (W.rg (WL.ld rfl (loadN iy36 hlen aba.all) rfl (WL.cl Tryz.call23 rfl rfl (c23 ra hu) ?_ nop)))
 intro v1 w1 h1
 obtain ⟨vb, g, c, rfl, hvb, hb, f1⟩ := eres_val h1
 have aba1 : Blk w1 bxa cs 36 := (f1.blk _ aba.lt (fun h => h)).trans aba
 refine WL.mv rfl rfl (WL.extract rfl rfl rfl (WL.extract rfl rfl rfl (WL.an rfl rfl (WL.an rfl rfl (WL.nx ?_)))))
 refine W.sq (W.rg (WL.ld rfl (loadN iy36 hlen aba1.all) rfl (WL.cl Tryz.call35 rfl rfl (c35 (ra.fresh f1) hu) ?_ nop)))
 intro v2 w2 h2
 obtain ⟨vb2, g2, c2, rfl, hvb2, hb2, f2⟩ := eres_val h2
 refine WL.mv rfl rfl (WL.extract rfl rfl rfl (WL.extract rfl rfl rfl (WL.an rfl rfl (WL.an rfl rfl (WL.nx ?_)))))
 have hs1 := bts_string (hb.keep0 f2)
 have hs2 := bts_string hb2
 refine W.sq (W.rg (WL.mv rfl rfl (WL.mv rfl rfl (WL.bi rfl rfl (run_eql (c := true) (by simp)) rfl (WL.mv rfl rfl ?_)))))
 refine WL.gd (j := 3) rfl rfl rfl (WL.mv rfl rfl (WL.gd (j := 3) rfl rfl rfl (WL.convert rfl hs1 rfl (WL.gd (j := 3) rfl rfl rfl (WL.mv rfl rfl ?_)))))
 refine WL.gd (j := 3) rfl rfl rfl (WL.convert rfl hs2 rfl (WL.gd (j := 3) rfl rfl rfl (WL.binStr rfl rfl run_eql_same rfl (WL.pick rfl rfl rfl (WL.an rfl rfl (WL.nx ?_))))))
 exact W.ret fun a ha => pR rfl ha rfl ⟨rfl, (fa.trans f1).trans f2⟩
inductive Nine : List Value → Prop
 | mk {s : ByteArray} {g1 : Option Addr} {n1 c1 : Nat} {g2 : Option Addr} {n2 c2 : Nat} {g3 : Option Addr} {n3 c3 : Nat} {g4 : Option Addr} {n4 c4 : Nat} {g5 : Option Addr} {n5 c5 : Nat} {g6 : Option Addr} {n6 c6 : Nat} {g7 : Option Addr} {n7 c7 : Nat} {g8 : Option Addr} {n8 c8 : Nat} : Nine [.string s, .slice g1 n1 c1, .slice g2 n2 c2, .slice g3 n3 c3, .slice g4 n4 c4, .slice g5 n5 c5, .slice g6 n6 c6, .slice g7 n7 c7, .slice g8 n8 c8]
def sheetB : List Value → List Value
 | [] => []
 | b :: r => b :: .slice none 0 0 :: r
structure BitsOf (w : World) (t : T) (bs : List Value) : Prop where
 nine : Nine bs
 rep : Rep w (fun _ => True) t (.st .sheet) (sheetB bs)
theorem Nine.len {bs : List Value} (h : Nine bs) : bs.length = 9 := by cases h; rfl
theorem Nine.slen {bs : List Value} (h : Nine bs) : (sheetB bs).length = 10 := by cases h; rfl
theorem Nine.one {bs : List Value} (h : Nine bs) : ∀ x ∈ sheetB bs, x.oneCell' = true := by
 cases h
 intro x hx
 simp only [sheetB, List.mem_cons, List.not_mem_nil, or_false] at hx
 rcases hx with h | h | h | h | h | h | h | h | h | h <;> subst h <;> rfl
theorem BitsOf.fresh {w w' : World} {t : T} {bs : List Value} (h : BitsOf w t bs) (f : F0 w w') : BitsOf w' t bs := ⟨h.nine, h.rep.fresh f⟩
theorem fld43_0 : fA Tryz.prog 43 0 0 := fun w b o => by
 simp [Instr.fieldAt, Tryz.runUnderlying43, Instr.sureAddr, fieldPlace, Tryz.sizeOf9, Addr.add_lit]
theorem fld43_1 : fA Tryz.prog 43 1 1 := fun w b o => by
 simp [Instr.fieldAt, Tryz.runUnderlying43, Instr.sureAddr, fieldPlace, Tryz.sizeOf27, Addr.add_lit]
theorem fld43_2 : fA Tryz.prog 43 2 2 := fun w b o => by
 simp [Instr.fieldAt, Tryz.runUnderlying43, Instr.sureAddr, fieldPlace, Tryz.sizeOf28, Addr.add_lit]
theorem fld43_3 : fA Tryz.prog 43 3 3 := fun w b o => by
 simp [Instr.fieldAt, Tryz.runUnderlying43, Instr.sureAddr, fieldPlace, Tryz.sizeOf29, Addr.add_lit]
theorem fld43_4 : fA Tryz.prog 43 4 4 := fun w b o => by
 simp [Instr.fieldAt, Tryz.runUnderlying43, Instr.sureAddr, fieldPlace, Tryz.sizeOf30, Addr.add_lit]
theorem fld43_5 : fA Tryz.prog 43 5 5 := fun w b o => by
 simp [Instr.fieldAt, Tryz.runUnderlying43, Instr.sureAddr, fieldPlace, Tryz.sizeOf31, Addr.add_lit]
theorem fld43_6 : fA Tryz.prog 43 6 6 := fun w b o => by
 simp [Instr.fieldAt, Tryz.runUnderlying43, Instr.sureAddr, fieldPlace, Tryz.sizeOf32, Addr.add_lit]
theorem fld43_7 : fA Tryz.prog 43 7 7 := fun w b o => by
 simp [Instr.fieldAt, Tryz.runUnderlying43, Instr.sureAddr, fieldPlace, Tryz.sizeOf33, Addr.add_lit]
theorem fld43_8 : fA Tryz.prog 43 8 8 := fun w b o => by
 simp [Instr.fieldAt, Tryz.runUnderlying43, Instr.sureAddr, fieldPlace, Tryz.sizeOf34, Addr.add_lit]
theorem run_bsheet {w : World} {s : ByteArray} {g1 : Option Addr} {n1 c1 : Nat} {g2 : Option Addr} {n2 c2 : Nat} {g3 : Option Addr} {n3 c3 : Nat} {g4 : Option Addr} {n4 c4 : Nat} {g5 : Option Addr} {n5 c5 : Nat} {g6 : Option Addr} {n6 c6 : Nat} {g7 : Option Addr} {n7 c7 : Nat} {g8 : Option Addr} {n8 c8 : Nat} :
 (Instr.build 36 #[(0, .string s), (2, .slice g1 n1 c1), (3, .slice g2 n2 c2), (4, .slice g3 n3 c3), (5, .slice g4 n4 c4), (6, .slice g5 n5 c5), (7, .slice g6 n6 c6), (8, .slice g7 n7 c7), (9, .slice g8 n8 c8)]).run Tryz.prog w = .ok (.agg (sheetB [.string s, .slice g1 n1 c1, .slice g2 n2 c2, .slice g3 n3 c3, .slice g4 n4 c4, .slice g5 n5 c5, .slice g6 n6 c6, .slice g7 n7 c7, .slice g8 n8 c8]).toArray) w := by
 simp [Instr.build, Tryz.zeroValue36, Tryz.runUnderlying36, Value.cells, Instr.fill, sheetB]
set_option maxHeartbeats 1000000 in
theorem c19 {w : World} {bs : List Value} (h : Nine bs) : Calls Tryz.prog 19 [.agg bs.toArray].toArray w (End (fun v w' => v = .agg (sheetB bs).toArray ∧ F0 w w') (fun _ _ => False)) := by
 have hone := h.one
 cases h
 rename_i s g1 n1 c1 g2 n2 c2 g3 n3 c3 g4 n4 c4 g5 n5 c5 g6 n6 c6 g7 n7 c7 g8 n8 c8
 refine cW 22 Tryz.func19 rfl rfl rfl ?_
 refine W.sq (W.rg (WL.box (v := .agg [.string s, .slice g1 n1 c1, .slice g2 n2 c2, .slice g3 n3 c3, .slice g4 n4 c4, .slice g5 n5 c5, .slice g6 n6 c6, .slice g7 n7 c7, .slice g8 n8 c8].toArray) rfl rfl ?_))
 have fa : F0 w (w.alloc (.cells [.string s, .slice g1 n1 c1, .slice g2 n2 c2, .slice g3 n3 c3, .slice g4 n4 c4, .slice g5 n5 c5, .slice g6 n6 c6, .slice g7 n7 c7, .slice g8 n8 c8].toArray 43)) := Fr.alloc _ _ _
 have aba : Blk (w.alloc (.cells [.string s, .slice g1 n1 c1, .slice g2 n2 c2, .slice g3 n3 c3, .slice g4 n4 c4, .slice g5 n5 c5, .slice g6 n6 c6, .slice g7 n7 c7, .slice g8 n8 c8].toArray 43)) w.heap.size [.string s, .slice g1 n1 c1, .slice g2 n2 c2, .slice g3 n3 c3, .slice g4 n4 c4, .slice g5 n5 c5, .slice g6 n6 c6, .slice g7 n7 c7, .slice g8 n8 c8] 43 := Blk.alloc_new
 show WL _ _ _ _ _ _ _ (w.alloc (.cells [.string s, .slice g1 n1 c1, .slice g2 n2 c2, .slice g3 n3 c3, .slice g4 n4 c4, .slice g5 n5 c5, .slice g6 n6 c6, .slice g7 n7 c7, .slice g8 n8 c8].toArray 43))
 generalize w.alloc (.cells [.string s, .slice g1 n1 c1, .slice g2 n2 c2, .slice g3 n3 c3, .slice g4 n4 c4, .slice g5 n5 c5, .slice g6 n6 c6, .slice g7 n7 c7, .slice g8 n8 c8].toArray 43) = wa at fa aba ⊢
 generalize w.heap.size = bxa at aba ⊢
 refine WL.alloc (zero36 _) rfl ?_
 have fb : F0 wa (wa.alloc (.cells zsheet.toArray 36)) := Fr.alloc _ _ _
 have abb : Blk (wa.alloc (.cells zsheet.toArray 36)) wa.heap.size zsheet 36 := Blk.alloc_new
 have hsz : wa.heap.size = wa.heap.size := rfl
 show WL _ _ _ _ _ _ _ (wa.alloc (.cells zsheet.toArray 36))
 replace aba : Blk (wa.alloc (.cells zsheet.toArray 36)) bxa _ 43 := (fb.blk _ aba.lt (fun h => h)).trans aba
 have hst := store36 abb rfl (vs := sheetB [.string s, .slice g1 n1 c1, .slice g2 n2 c2, .slice g3 n3 c3, .slice g4 n4 c4, .slice g5 n5 c5, .slice g6 n6 c6, .slice g7 n7 c7, .slice g8 n8 c8]) rfl hone
 have fs : F0 wa ((wa.alloc (.cells zsheet.toArray 36)).setRow wa.heap.size (sheetB [.string s, .slice g1 n1 c1, .slice g2 n2 c2, .slice g3 n3 c3, .slice g4 n4 c4, .slice g5 n5 c5, .slice g6 n6 c6, .slice g7 n7 c7, .slice g8 n8 c8]).toArray) :=
  ⟨rfl, rfl, rfl, by simp, fun b hb _ => by rw [setRow_other _ _ _ _ (by omega), heap_alloc_old wa _ b hb], fun b hb => hb.elim⟩
 have hend : Blk ((wa.alloc (.cells zsheet.toArray 36)).setRow wa.heap.size (sheetB [.string s, .slice g1 n1 c1, .slice g2 n2 c2, .slice g3 n3 c3, .slice g4 n4 c4, .slice g5 n5 c5, .slice g6 n6 c6, .slice g7 n7 c7, .slice g8 n8 c8]).toArray) wa.heap.size (sheetB [.string s, .slice g1 n1 c1, .slice g2 n2 c2, .slice g3 n3 c3, .slice g4 n4 c4, .slice g5 n5 c5, .slice g6 n6 c6, .slice g7 n7 c7, .slice g8 n8 c8]) 36 := abb.setRow _
 generalize wa.alloc (.cells zsheet.toArray 36) = wb at fb abb aba hst fs hend ⊢
 refine WL.nx (W.sq (W.rg ?_))
 refine WL.fa rfl (fld43_0 _ _ _) rfl (WL.ld rfl (load1 iy9 (by rw [aba.cell]; rfl)) rfl ?_)
 refine WL.fa rfl (fld43_1 _ _ _) rfl (WL.ld rfl (load1 iy27 (by rw [aba.cell]; rfl)) rfl ?_)
 refine WL.fa rfl (fld43_2 _ _ _) rfl (WL.ld rfl (load1 iy28 (by rw [aba.cell]; rfl)) rfl ?_)
 refine WL.fa rfl (fld43_3 _ _ _) rfl (WL.ld rfl (load1 iy29 (by rw [aba.cell]; rfl)) rfl ?_)
 refine WL.fa rfl (fld43_4 _ _ _) rfl (WL.ld rfl (load1 iy30 (by rw [aba.cell]; rfl)) rfl ?_)
 refine WL.fa rfl (fld43_5 _ _ _) rfl (WL.ld rfl (load1 iy31 (by rw [aba.cell]; rfl)) rfl ?_)
 refine WL.fa rfl (fld43_6 _ _ _) rfl (WL.ld rfl (load1 iy32 (by rw [aba.cell]; rfl)) rfl ?_)
 refine WL.fa rfl (fld43_7 _ _ _) rfl (WL.ld rfl (load1 iy33 (by rw [aba.cell]; rfl)) rfl ?_)
 refine WL.fa rfl (fld43_8 _ _ _) rfl (WL.ld rfl (load1 iy34 (by rw [aba.cell]; rfl)) rfl ?_)
 refine WL.build rfl run_bsheet rfl (WL.so rfl rfl hst (WL.nx (W.ret fun a ha => post_cell rfl ha rfl (loadN iy36 rfl hend.all) ⟨rfl, fa.trans fs⟩)))
def lightOf (t : T) : Bool := match encodeOf t with
 | none => true
 | some bs => decide (bs.length ≤ 20000)
set_option maxHeartbeats 1000000 in
theorem c18 {w : World} {t : T} {bs : List Value} (h : BitsOf w t bs) (hu : 11 * t.wt ≤ 2 ^ 40) : Calls Tryz.prog 18 [.agg bs.toArray].toArray w (End (fun v w' => v = .bool (lightOf t) ∧ F0 w w') (fun _ _ => False)) := by
 have hlen := h.nine.len
 refine cW 18 Tryz.func18 rfl rfl rfl ?_
 refine W.sq (W.rg (WL.box (v := .agg bs.toArray) rfl rfl ?_))
 have fa : F0 w (w.alloc (.cells bs.toArray 43)) := Fr.alloc _ _ _
 have aba : Blk (w.alloc (.cells bs.toArray 43)) w.heap.size bs 43 := Blk.alloc_new
 show WL _ _ _ _ _ _ _ (w.alloc (.cells bs.toArray 43))
 generalize w.alloc (.cells bs.toArray 43) = wa at fa aba ⊢
 generalize w.heap.size = bxa at aba ⊢
 refine WL.an rfl rfl (WL.nx ?_)
 refine W.sq (W.rg (WL.ld rfl (loadN iy43 hlen aba.all) rfl (WL.cl Tryz.call19 rfl rfl (c19 h.nine) ?_ nop)))
 rintro _ w1 ⟨rfl, f1⟩
 have f01 := fa.trans f1
 refine WL.cl Tryz.call35 rfl rfl (c35 (h.rep.fresh f01) hu) ?_ nop
 intro v2 w2 h2
 obtain ⟨vb, g, c, rfl, hvb, hb, f2⟩ := eres_val h2
 have F := f01.trans f2
 refine WL.mv rfl rfl (WL.extract rfl rfl rfl (WL.extract rfl rfl rfl (WL.an rfl rfl (WL.an rfl rfl (WL.nx ?_)))))
 unfold lightOf
 cases he : encodeOf t with
 | none =>
  refine W.sq (W.rg (WL.mv rfl rfl (WL.bi rfl rfl (run_neq (c := true) (by simp)) rfl (WL.mv rfl rfl ?_))))
  exact WL.skip _ _ _ rfl (WL.nx (W.ret fun a ha => pR rfl ha rfl ⟨rfl, F⟩))
 | some xs =>
  rw [he] at hvb
  subst hvb
  refine W.sq (W.rg (WL.mv rfl rfl (WL.bi rfl rfl (run_neq (c := false) (by simp)) rfl (WL.mv rfl rfl ?_))))
  refine WL.gd (j := 2) rfl rfl rfl (WL.mv rfl rfl (WL.gd (j := 2) rfl rfl rfl (WL.len rfl (lS Tryz.underlying22) rfl (WL.gd (j := 2) rfl rfl rfl (WL.bi rfl rfl (run_leq (c := decide (xs.length ≤ 20000)) (decide_eq_decide.2 (by simp only [Option.getD_some]; omega))) rfl ?_)))))
  exact WL.pick rfl rfl rfl (WL.an rfl rfl (WL.nx (W.ret fun a ha => pR rfl ha rfl ⟨rfl, F⟩)))
end Go.Sx
namespace Go.Sx
open Go.Proofs
theorem QL.convC {P : Program} {ops : Array Oper} {C : World → Prop} {Q : Act → Prop} {rest : List Oper} {n : Nat} {ds : List Deferred} {m : Env} {d : Nat} {ty : TypeId} {pos : String} {aft : Array Edge}
 {s t : Nat} {x : Operand} {vx v : Value} (hx : ev m x = some vx) (hr : ∀ w, C w → (Go.convert s t vx).run P w = .ok v w) (hb : Nat.blt d n = true)
 (h : QL P ops C Q rest n ds ((d, v) :: m)) : QL P ops C Q (⟨some d, .convert s t x, ty, pos, aft, none⟩ :: rest) n ds m :=
 QL.val rfl rfl hb (fun a w ha hw => by simp [execOp, ha.eval hx, hr w hw]) h
theorem quiet_of {w0 : World} {f : FuncId} {vs : List Value} {v : Value} (h : ∀ w, F0 w0 w → Calls Tryz.prog f vs.toArray w (End (fun r w' => r = v ∧ F0 w w') (fun _ _ => False))) :
 ∀ w, F0 w0 w → Calls Tryz.prog f vs.toArray w (fun e w'' => e = .returned v ∧ F0 w0 w'') := by
 intro w hw
 refine (h w hw).mono ?_
 intro e w' he
 cases e with
 | returned v => obtain ⟨rfl, g⟩ := he; exact ⟨rfl, hw.trans g⟩
 | panicked ch => exact he.elim
 | outgrown => exact he.elim
theorem run_eql_bool {w : World} {a b : Bool} : (binOp .eql 4 (.bool a) (.bool b)).run Tryz.prog w = .ok (.bool (a == b)) w := by
 have h1 : binOp .eql 4 (.bool a) (.bool b) = (do pure (.bool (← Op.equal 4 (.bool a) (.bool b)))) := rfl
 have h2 : (Op.equal 4 (.bool a) (.bool b)).run Tryz.prog w = .ok (a == b) w := eq_bool (d := 9999)
 rw [h1]
 simp only [Sem.run_bind, h2, Result.andThen_ok, Sem.run_pure]
theorem guard_str {w : World} {x y : Operand} {a b : ByteArray} : (eqGuard .eql 9 x y (.string a) (.string b)).run Tryz.prog w = .ok () w := by unfold eqGuard; rfl
theorem guard_bool {w : World} {x y : Operand} {a b : Bool} : (eqGuard .eql 4 x y (.bool a) (.bool b)).run Tryz.prog w = .ok () w := by unfold eqGuard; rfl
theorem ty43 : IsTy Tryz.prog 43 true 9 := iy43
theorem ty36 : IsTy Tryz.prog 36 true 10 := iy36
set_option maxHeartbeats 2000000 in
theorem c5 {w : World} {t : T} {bs : List Value} (h : BitsOf w t bs) (hu : 11 * t.wt ≤ 2 ^ 40) : Calls Tryz.prog 5 [.agg bs.toArray].toArray w (End (fun v w' => v = .bool true ∧ F0 w w') (fun _ _ => False)) := by
 have hlen := h.nine.len
 refine cW 51 Tryz.func5 rfl rfl rfl ?_
 refine W.sq (W.rg (WL.box (v := .agg bs.toArray) rfl rfl ?_))
 have fa : F0 w (w.alloc (.cells bs.toArray 43)) := Fr.alloc _ _ _
 have aba : Blk (w.alloc (.cells bs.toArray 43)) w.heap.size bs 43 := Blk.alloc_new
 show WL _ _ _ _ _ _ _ (w.alloc (.cells bs.toArray 43))
 generalize w.alloc (.cells bs.toArray 43) = wa at fa aba ⊢
 generalize w.heap.size = bxa at aba ⊢
 have hw := h.fresh fa
 have hkd := Rep.kd _ _ _ hw.rep
 refine WL.an rfl rfl (WL.nx ?_)
 refine W.sq (W.sq (W.rg (WL.ld rfl (loadN ty43 hlen aba.all) rfl (WL.cl Tryz.call18 rfl rfl (c18 hw hu) ?_ nop))))
 rintro _ w1 ⟨rfl, f1⟩
 refine WL.not rfl rfl (WL.nx (W.cond rfl (fun ht => ?_) (fun hf => W.skip fun a ha => tN ?_)))
 · refine W.sq (W.rg (WL.cl Tryz.call13 rfl rfl c13 ?_ nop))
   rintro _ w2 ⟨rfl, f2⟩
   exact WL.an rfl rfl (WL.nx (W.ret fun a ha => tR (pR rfl ha rfl ⟨rfl, (fa.trans f1).trans f2⟩)))
 have aba1 : Blk w1 bxa bs 43 := (f1.blk _ aba.lt (fun h => h)).trans aba
 refine W.run ha (W.sq (W.rg (WL.ld rfl (loadN ty43 hlen aba1.all) rfl (WL.cl Tryz.call19 rfl rfl (c19 h.nine) ?_ nop))))
 rintro _ w2 ⟨rfl, f2⟩
 have f02 : F0 wa w2 := f1.trans f2
 refine WL.cl Tryz.call23 rfl rfl (c23 (hw.rep.fresh f02) hu) ?_ nop
 intro v3 w3 h3
 cases he : encodeOf t with
 | none =>
  rw [he] at h3
  obtain ⟨vb, f3, rfl, rfl⟩ := h3
  have F := (fa.trans f02).trans f3.none
  refine WL.mv rfl rfl (WL.extract rfl rfl rfl (WL.extract rfl rfl rfl (WL.an rfl rfl (WL.an rfl rfl (WL.nx ?_)))))
  refine W.sq (W.sq (W.rg (WL.mv rfl rfl (WL.bi rfl rfl (run_neq (c := true) rfl) rfl (WL.nx (W.ct rfl ?_))))))
  refine W.sq (W.rg (WL.mv rfl rfl (WL.bi rfl rfl (run_eql (c := true) rfl) rfl (WL.mv rfl rfl ?_))))
  refine WL.gd (j := 2) rfl rfl rfl (WL.mv rfl rfl (WL.gd (j := 2) rfl rfl rfl (WL.len rfl (lS Tryz.underlying22) rfl (WL.gd (j := 2) rfl rfl rfl (WL.bi rfl rfl (run_eql (c := true) rfl) rfl (WL.pick rfl rfl rfl (WL.mv rfl rfl ?_)))))))
  refine WL.gd (j := 7) rfl rfl rfl (WL.cl Tryz.call13 rfl rfl c13 ?_ nop)
  rintro _ w4 ⟨rfl, f4⟩
  exact WL.pick rfl rfl rfl (WL.an rfl rfl (WL.nx (W.ret fun a ha => tR (pR rfl ha rfl ⟨rfl, F.trans f4⟩))))
 | some xs =>
  rw [he] at h3
  obtain ⟨vb, f3, rfl, hrow⟩ := h3
  have f03 : F0 wa w3 := f02.trans f3.none
  refine WL.mv rfl rfl (WL.extract rfl rfl rfl (WL.extract rfl rfl rfl (WL.an rfl rfl (WL.an rfl rfl (WL.nx ?_)))))
  refine W.sq (W.sq (W.rg (WL.mv rfl rfl (WL.bi rfl rfl (run_neq (c := false) rfl) rfl (WL.nx (W.cond_false rfl (W.skip fun a ha => tN ?_)))))))
  refine W.run ha (W.sq (W.rg (WL.mv rfl rfl (WL.cl Tryz.call15 rfl rfl (c15 (Bts.of_row hrow)) ?_ nop))))
  rintro _ w4 ⟨cs, e, rfl, f4, hd⟩
  rcases hd with ⟨u, hok, rfl, r4⟩ | ⟨hno, _, _⟩
  rotate_left
  · exact absurd (dec_of_encode hkd he) (hno _)
  obtain rfl : u = t := dec_unique hkd (Rep.kd _ _ _ r4) he hok
  have hone := Rep.one _ _ _ r4
  obtain ⟨w5, hst5, b5, f5⟩ := put_sheet (w := w4) (cs := cs) hone.1 hone.2
  generalize hq : w4.heap.size = bx5 at hst5 b5
  refine WL.mv rfl rfl (WL.extract rfl rfl rfl (WL.extract rfl rfl rfl (WL.alloc (zero36 _) rfl ?_)))
  rw [hq]
  refine WL.so rfl rfl hst5 (WL.an rfl rfl (WL.nx ?_))
  have f45 := f4.trans f5
  have f05 : F0 wa w5 := f03.trans f45
  have r5 : Rep w5 (fun _ => True) u (.st .sheet) cs := Rep.agree (fun b _ hl => ⟨trivial, Nat.lt_of_lt_of_le hl f5.size, f5.blk b hl (fun h => h)⟩) _ _ _ r4
  have aba5 : Blk w5 bxa bs 43 := (f05.blk _ aba.lt (fun h => h)).trans aba
  have hw5 := hw.fresh f05
  have hsame : sameOf u u = true := by rw [same_encode he he]; simp
  refine W.sq (W.quiet (F0 w5) mixed (by kernel_rfl) (F0.drawn (Fr.refl _ _)) ?_)
  refine QL.move rfl rfl (QL.binInt rfl rfl (fun w => run_eql (c := true) rfl) rfl (QL.move rfl rfl ?_))
  refine QL.gd (j := 2) rfl rfl rfl (QL.load rfl (fun w h => loadN ty36 hone.1 (h.at_ b5.lt b5.all)) rfl (QL.gd (j := 2) rfl rfl rfl (QL.load rfl (fun w h => loadN ty43 hlen (h.at_ aba5.lt aba5.all)) rfl ?_)))
  refine QL.gd (j := 2) rfl rfl rfl (QL.call Tryz.call19 rfl rfl (quiet_of fun w _ => c19 h.nine) ?_)
  refine QL.gd (j := 2) rfl rfl rfl (QL.call Tryz.call21 rfl rfl (quiet_of (v := .bool true) fun w k => by have := c21 (r5.fresh k) (hw5.rep.fresh k) hu hu; rw [hsame] at this; exact this) ?_)
  refine QL.pick rfl rfl rfl (QL.move rfl rfl ?_)
  refine QL.gd (j := 8) rfl rfl rfl (QL.load rfl (fun w h => loadN ty36 hone.1 (h.at_ b5.lt b5.all)) rfl (QL.gd (j := 8) rfl rfl rfl (QL.load rfl (fun w h => loadN ty43 hlen (h.at_ aba5.lt aba5.all)) rfl ?_)))
  refine QL.gd (j := 8) rfl rfl rfl (QL.call Tryz.call19 rfl rfl (quiet_of fun w _ => c19 h.nine) ?_)
  refine QL.gd (j := 8) rfl rfl rfl (QL.call Tryz.call17 rfl rfl (quiet_of (v := .bool true) fun w k => by have := same24 (r5.fresh k) (hw5.rep.fresh k); rw [teq_true rfl] at this; exact this) ?_)
  refine QL.pick rfl rfl rfl (QL.move rfl rfl ?_)
  refine QL.gd (j := 14) rfl rfl rfl (QL.call Tryz.call13 rfl rfl (quiet_of fun w _ => c13) ?_)
  exact QL.pick rfl rfl rfl (QL.assign rfl rfl (QL.next fun w6 h6 => W.ret fun a ha => pR rfl ha rfl ⟨rfl, (fa.trans f05).trans h6⟩))
set_option maxHeartbeats 2000000 in
theorem c7 {w : World} {t u : T} {bs es : List Value} (h : BitsOf w t bs) (k : BitsOf w u es) (hu : 11 * t.wt ≤ 2 ^ 40) (hu2 : 11 * u.wt ≤ 2 ^ 40) :
 Calls Tryz.prog 7 [.agg bs.toArray, .agg es.toArray].toArray w (End (fun v w' => v = .bool true ∧ F0 w w') (fun _ _ => False)) := by
 have hlen := h.nine.len
 have hlen2 := k.nine.len
 refine cW 51 Tryz.func7 rfl rfl rfl ?_
 refine W.sq (W.rg (WL.box (v := .agg bs.toArray) rfl rfl ?_))
 have fa : F0 w (w.alloc (.cells bs.toArray 43)) := Fr.alloc _ _ _
 have aba : Blk (w.alloc (.cells bs.toArray 43)) w.heap.size bs 43 := Blk.alloc_new
 show WL _ _ _ _ _ _ _ (w.alloc (.cells bs.toArray 43))
 generalize w.alloc (.cells bs.toArray 43) = wa at fa aba ⊢
 generalize w.heap.size = bxa at aba ⊢
 refine WL.box (v := .agg es.toArray) rfl rfl ?_
 have fb : F0 wa (wa.alloc (.cells es.toArray 43)) := Fr.alloc _ _ _
 have abb : Blk (wa.alloc (.cells es.toArray 43)) wa.heap.size es 43 := Blk.alloc_new
 show WL _ _ _ _ _ _ _ (wa.alloc (.cells es.toArray 43))
 generalize wa.alloc (.cells es.toArray 43) = wb at fb abb ⊢
 generalize wa.heap.size = bxb at abb ⊢
 have fw : F0 w wb := fa.trans fb
 replace aba : Blk wb bxa bs 43 := (fb.blk _ aba.lt (fun h => h)).trans aba
 have hw := h.fresh fw
 have kw := k.fresh fw
 have keep1 : ∀ {w' : World}, F0 wb w' → Blk w' bxa bs 43 := fun f => (f.blk _ aba.lt (fun h => h)).trans aba
 have keep2 : ∀ {w' : World}, F0 wb w' → Blk w' bxb es 43 := fun f => (f.blk _ abb.lt (fun h => h)).trans abb
 refine WL.an rfl rfl (WL.nx ?_)
 refine W.sq (W.sq (W.rg (WL.ld rfl (loadN ty43 hlen aba.all) rfl (WL.cl Tryz.call18 rfl rfl (c18 hw hu) ?_ nop))))
 rintro _ w1 ⟨rfl, f1⟩
 refine WL.not rfl rfl (WL.mv rfl rfl ?_)
 cases hl : lightOf t with
 | false =>
  refine WL.skip _ _ _ rfl (WL.nx (W.ct rfl ?_))
  refine W.sq (W.rg (WL.cl Tryz.call13 rfl rfl c13 ?_ nop))
  rintro _ w2 ⟨rfl, f2⟩
  exact WL.an rfl rfl (WL.nx (W.ret fun a ha => tR (pR rfl ha rfl ⟨rfl, (fw.trans f1).trans f2⟩)))
 | true =>
 refine WL.gd (j := 3) rfl rfl rfl (WL.ld rfl (loadN ty43 hlen2 (keep2 f1).all) rfl (WL.gd (j := 3) rfl rfl rfl (WL.cl Tryz.call18 rfl rfl (c18 (kw.fresh f1) hu2) ?_ nop)))
 rintro _ w2 ⟨rfl, f2⟩
 have f02 := f1.trans f2
 refine WL.gd (j := 3) rfl rfl rfl (WL.not rfl rfl (WL.pick rfl rfl rfl (WL.nx (W.cond rfl (fun ht => ?_) (fun hf => W.skip fun a ha => tN ?_)))))
 · refine W.sq (W.rg (WL.cl Tryz.call13 rfl rfl c13 ?_ nop))
   rintro _ w3 ⟨rfl, f3⟩
   exact WL.an rfl rfl (WL.nx (W.ret fun a ha => tR (pR rfl ha rfl ⟨rfl, (fw.trans f02).trans f3⟩)))
 refine W.run ha (W.sq (W.rg (WL.ld rfl (loadN ty43 hlen (keep1 f02).all) rfl (WL.cl Tryz.call19 rfl rfl (c19 h.nine) ?_ nop))))
 rintro _ w3 ⟨rfl, f3⟩
 have f03 := f02.trans f3
 refine WL.cl Tryz.call23 rfl rfl (c23 (hw.rep.fresh f03) hu) ?_ nop
 intro v4 w4 h4
 obtain ⟨va, ga, ca, rfl, hva, hba, f4⟩ := eres_val h4
 have f04 := f03.trans f4
 refine WL.mv rfl rfl (WL.extract rfl rfl rfl (WL.extract rfl rfl rfl (WL.an rfl rfl (WL.an rfl rfl (WL.nx ?_)))))
 refine W.sq (W.rg (WL.ld rfl (loadN ty43 hlen2 (keep2 f04).all) rfl (WL.cl Tryz.call19 rfl rfl (c19 k.nine) ?_ nop)))
 rintro _ w5 ⟨rfl, f5⟩
 have f05 := f04.trans f5
 refine WL.cl Tryz.call23 rfl rfl (c23 (kw.rep.fresh f05) hu2) ?_ nop
 intro v6 w6 h6
 obtain ⟨vb, gb, cb, rfl, hvb, hbb, f6⟩ := eres_val h6
 have f06 := f05.trans f6
 refine WL.mv rfl rfl (WL.extract rfl rfl rfl (WL.extract rfl rfl rfl (WL.an rfl rfl (WL.an rfl rfl (WL.nx ?_)))))
 cases he : encodeOf t with
 | none =>
  refine W.sq (W.sq (W.rg (WL.mv rfl rfl (WL.bi rfl rfl (run_neq (c := true) rfl) rfl (WL.mv rfl rfl ?_)))))
  refine WL.skip _ _ _ rfl (WL.nx (W.ct rfl ?_))
  refine W.sq (W.rg (WL.cl Tryz.call13 rfl rfl c13 ?_ nop))
  rintro _ w7 ⟨rfl, f7⟩
  exact WL.an rfl rfl (WL.nx (W.ret fun a ha => tR (pR rfl ha rfl ⟨rfl, (fw.trans f06).trans f7⟩)))
 | some xs =>
 refine W.sq (W.sq (W.rg (WL.mv rfl rfl (WL.bi rfl rfl (run_neq (c := false) rfl) rfl (WL.mv rfl rfl ?_)))))
 refine WL.gd (j := 2) rfl rfl rfl (WL.mv rfl rfl ?_)
 cases he2 : encodeOf u with
 | none =>
  refine WL.gd (j := 2) rfl rfl rfl (WL.bi rfl rfl (run_neq (c := true) rfl) rfl (WL.pick rfl rfl rfl (WL.nx (W.ct rfl ?_))))
  refine W.sq (W.rg (WL.cl Tryz.call13 rfl rfl c13 ?_ nop))
  rintro _ w7 ⟨rfl, f7⟩
  exact WL.an rfl rfl (WL.nx (W.ret fun a ha => tR (pR rfl ha rfl ⟨rfl, (fw.trans f06).trans f7⟩)))
 | some ys =>
 refine WL.gd (j := 2) rfl rfl rfl (WL.bi rfl rfl (run_neq (c := false) rfl) rfl (WL.pick rfl rfl rfl (WL.nx (W.cond_false rfl (W.skip fun a ha => tN ?_)))))
 rw [he] at hba
 rw [he2] at hbb
 simp only [Option.getD_some] at hba hbb
 have hb6 : Bts w6 va xs := (hba.keep0 f5).keep0 f6
 have hsame : sameOf t u = decide (xs = ys) := same_encode he he2
 have hxy : decide (ByteArray.mk xs.toArray = ByteArray.mk ys.toArray) = decide (xs = ys) := decide_eq_decide.2 ⟨fun e => by cases e; rfl, fun e => by rw [e]⟩
 have hw6 := hw.fresh f06
 have kw6 := kw.fresh f06
 refine W.run ha (W.sq (W.quiet (F0 w6) mixed (by kernel_rfl) (F0.drawn (Fr.refl _ _)) ?_))
 refine QL.move rfl rfl (QL.convC rfl (fun w h => bts_string (hb6.keep0 h)) rfl (QL.move rfl rfl (QL.convC rfl (fun w h => bts_string (hbb.keep0 h)) rfl ?_)))
 refine QL.binAny rfl rfl (fun w => guard_str) (fun w => run_eql_str) rfl ?_
 refine QL.load rfl (fun w h => loadN ty43 hlen (h.at_ (keep1 f06).lt (keep1 f06).all)) rfl (QL.call Tryz.call19 rfl rfl (quiet_of fun w _ => c19 h.nine) ?_)
 refine QL.load rfl (fun w h => loadN ty43 hlen2 (h.at_ (keep2 f06).lt (keep2 f06).all)) rfl (QL.call Tryz.call19 rfl rfl (quiet_of fun w _ => c19 k.nine) ?_)
 refine QL.call Tryz.call21 rfl rfl (quiet_of fun w j => c21 (hw6.rep.fresh j) (kw6.rep.fresh j) hu hu2) ?_
 rw [hsame, hxy]
 refine QL.binAny rfl rfl (fun w => guard_bool) (fun w => by rw [run_eql_bool, beq_self_eq_true]) rfl (QL.move rfl rfl ?_)
 refine QL.gd (j := 11) rfl rfl rfl (QL.call Tryz.call13 rfl rfl (quiet_of fun w _ => c13) ?_)
 exact QL.pick rfl rfl rfl (QL.assign rfl rfl (QL.next fun w7 h7 => W.ret fun a ha => pR rfl ha rfl ⟨rfl, (fw.trans f06).trans h7⟩))
end Go.Sx
