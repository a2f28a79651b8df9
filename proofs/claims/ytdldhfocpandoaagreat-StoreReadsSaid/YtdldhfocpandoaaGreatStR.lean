import Derived.Test.YtdldhfocpandoaaGreatStQ
import Derived.Test.YtdldhfocpandoaaGreatStI
set_option maxHeartbeats 8000000
set_option maxRecDepth 8000
namespace Go.Sx
open Go.Proofs Go.Proofs.Tryz
theorem R9 : prog.eqGuardType prog.depth 84 = false := by kernel_rfl
theorem Pe {w : World} {xs : Array Value} {i : Nat} {v : Value} (h : xs[i]? = some v) : (part 4 xs i).run prog w = .ok v w := by
 simp [part, isAgg4, h]
theorem OZ {w : World} {d : Nat} {a b : Int} : (Op.equalIn (d + 1) 3 (.int .i64 a) (.int .i64 b)).run prog w = .ok (decide (a = b)) w := by
 rw [JQ]; congr 1
def I6 (a c : ByteArray) (e g : Bool) (i : ByteArray) (k : Int) : Array Value := #[.string a, .string c, .bool e, .bool g, .string i, .int .i64 k]
theorem O8 {w : World} {d : Nat} {a b c c' i j : ByteArray} {e e' g g' : Bool} {k k' : Int} :
 (Op.equalIn (d + 2) 84 (.agg (I6 a c e g i k)) (.agg (I6 b c' e' g' j k'))).run prog w = .ok (decide (a = b) && (decide (c = c') && ((e == e') && ((g == g') && (decide (i = j) && decide (k = k')))))) w := by
 have p0 : ∀ a c e g i k (w : World), (part 9 (I6 a c e g i k) 0).run prog w = .ok (.string a) w := fun _ _ _ _ _ _ w => LV rfl
 have p1 : ∀ a c e g i k (w : World), (part 9 (I6 a c e g i k) 1).run prog w = .ok (.string c) w := fun _ _ _ _ _ _ w => LV rfl
 have p2 : ∀ a c e g i k (w : World), (part 4 (I6 a c e g i k) 2).run prog w = .ok (.bool e) w := fun _ _ _ _ _ _ w => Pe rfl
 have p3 : ∀ a c e g i k (w : World), (part 4 (I6 a c e g i k) 3).run prog w = .ok (.bool g) w := fun _ _ _ _ _ _ w => Pe rfl
 have p4 : ∀ a c e g i k (w : World), (part 9 (I6 a c e g i k) 4).run prog w = .ok (.string i) w := fun _ _ _ _ _ _ w => LV rfl
 have p5 : ∀ a c e g i k (w : World), (part 3 (I6 a c e g i k) 5).run prog w = .ok (.int .i64 k) w := fun _ _ _ _ _ _ w => Nc rfl
 rw [show d + 2 = (d + 1) + 1 from rfl]
 unfold Op.equalIn
 generalize hx1 : decide (a = b) = x1
 generalize hx2 : decide (c = c') = x2
 generalize hx3 : (e == e') = x3
 generalize hx4 : (g == g') = x4
 generalize hx5 : decide (i = j) = x5
 generalize hx6 : decide (k = k') = x6
 have q1 : ∀ (w : World), (Op.equalIn (d + 1) 9 (.string a) (.string b)).run prog w = .ok x1 w := fun w => by rw [In, hx1]
 have q2 : ∀ (w : World), (Op.equalIn (d + 1) 9 (.string c) (.string c')).run prog w = .ok x2 w := fun w => by rw [In, hx2]
 have q3 : ∀ (w : World), (Op.equalIn (d + 1) 4 (.bool e) (.bool e')).run prog w = .ok x3 w := fun w => by rw [Ls, hx3]
 have q4 : ∀ (w : World), (Op.equalIn (d + 1) 4 (.bool g) (.bool g')).run prog w = .ok x4 w := fun w => by rw [Ls, hx4]
 have q5 : ∀ (w : World), (Op.equalIn (d + 1) 9 (.string i) (.string j)).run prog w = .ok x5 w := fun w => by rw [In, hx5]
 have q6 : ∀ (w : World), (Op.equalIn (d + 1) 3 (.int .i64 k) (.int .i64 k')).run prog w = .ok x6 w := fun w => by rw [OZ, hx6]
 clear hx1 hx2 hx3 hx4 hx5 hx6
 cases x1
 · simp [runUnderlying84, p0, q1]
 cases x2
 · simp [runUnderlying84, p0, p1, q1, q2]
 cases x3
 · simp [runUnderlying84, p0, p1, p2, q1, q2, q3]
 cases x4
 · simp [runUnderlying84, p0, p1, p2, p3, q1, q2, q3, q4]
 cases x5
 · simp [runUnderlying84, p0, p1, p2, p3, p4, q1, q2, q3, q4, q5]
 cases x6
 · simp [runUnderlying84, p0, p1, p2, p3, p4, p5, q1, q2, q3, q4, q5, q6]
 · simp [runUnderlying84, p0, p1, p2, p3, p4, p5, q1, q2, q3, q4, q5, q6]
theorem LG {w : World} {S : Nat → Prop} {t : T} {cs : List Value} (h : Rep w S t (.st .mode) cs) :
 ∃ a c e g i k, t = .agg .mode [.str a, .str c, .bool e, .bool g, .str i, .int k] ∧ cs.toArray = I6 a c e g i k := by
 obtain ⟨l, rfl, hl, hF⟩ := h.st_inv
 obtain ⟨t0, l, rfl, r0, hF⟩ := hF.cons_inv
 obtain ⟨t1, l, rfl, r1, hF⟩ := hF.cons_inv
 obtain ⟨t2, l, rfl, r2, hF⟩ := hF.cons_inv
 obtain ⟨t3, l, rfl, r3, hF⟩ := hF.cons_inv
 obtain ⟨t4, l, rfl, r4, hF⟩ := hF.cons_inv
 obtain ⟨t5, l, rfl, r5, hF⟩ := hF.cons_inv
 obtain rfl := hF.nil_inv
 obtain ⟨x0, x1, x2, x3, x4, x5, rfl⟩ : ∃ x0 x1 x2 x3 x4 x5, cs = [x0, x1, x2, x3, x4, x5] := by
  match cs, hl with
  | [x0, x1, x2, x3, x4, x5], _ => exact ⟨x0, x1, x2, x3, x4, x5, rfl⟩
 simp only [Nat.zero_add, Nat.reduceAdd, Ty.size, List.drop_zero, List.drop_succ_cons, List.take_succ_cons, List.take_zero] at r0 r1 r2 r3 r4 r5
 obtain ⟨a, rfl, e0, _⟩ := r0.str_inv
 obtain ⟨c, rfl, e1, _⟩ := r1.str_inv
 obtain ⟨e, rfl, e2⟩ := r2.bool_inv
 obtain ⟨g, rfl, e3⟩ := r3.bool_inv
 obtain ⟨i, rfl, e4, _⟩ := r4.str_inv
 obtain ⟨k, rfl, e5, _⟩ := r5.int_inv
 cases e0; cases e1; cases e2; cases e3; cases e4; cases e5
 exact ⟨a, c, e, g, i, k, rfl, rfl⟩
theorem neq84 : Neq 84 (.st .mode) := by
 refine ⟨fun h k x y w => ?_, fun h k w => ?_⟩
 · exact Ji R9
 · obtain ⟨a, c, e, g, i, n, rfl, hc⟩ := LG h
   obtain ⟨a', c', e', g', i', n', rfl, hc'⟩ := LG k
   rw [Jn (c := decide (a = a') && (decide (c = c') && ((e == e') && ((g == g') && (decide (i = i') && decide (n = n')))))) (by simp)]
   show (binOp .neq 84 (.agg _) (.agg _)).run prog w = _
   rw [hc, hc']
   exact GN (O8 (d := 9998))
end Go.Sx
namespace Go.Sx
open Go.Proofs Go.Proofs.Tryz
theorem RL {t u : T} : SEnc 43 (.list (.st .charMap)) t u := by
 intro w S cs ds hr hk
 obtain ⟨la, rfl⟩ := hr.is_list
 obtain ⟨lb, rfl⟩ := hk.is_list
 obtain ⟨ga, capa, hva, hmla, hgeta⟩ := Bn hr
 obtain ⟨gb, capb, hvb, hmlb, hgetb⟩ := Bn hk
 rw [hva, hvb]
 refine AB 71 func43 V V V ?_
 refine Af (Aa (Ah V V (Ae ?_)))
 refine Af (Af (Aa (Ac V V (AE V (Ay underlying34) V (Ac V V (AE V (Ay underlying34) V (Al V V (BO (c := decide (la.length ≠ lb.length)) BZ) V (Ae (AK V (fun ht => ?_) (fun hf => A_ fun a ha => Ad ?_))))))))))
 · have hne : la.length ≠ lb.length := of_decide_eq_true ht
   refine Af (Aa (Ah V V (Ae (AA fun a ha => Ao (Au V ha V ⟨by rw [Da hne], Fr.refl _ _⟩)))))
 have hle : la.length = lb.length := Classical.byContradiction (of_decide_eq_false hf)
 refine A8 ha (Af (Af (Aa (Ah V V (Ae ?_)))))
 refine A1 (AW (ι := Nat × World) (fun i => [(0, .slice ga la.length capa), (1, .slice gb lb.length capb), (5, .int .i64 (i.1 : Int))]) (fun i w' => w' = i.2 ∧ i.1 ≤ la.length ∧ F0 w w' ∧ ∀ j, j < i.1 → la[j]? = lb[j]?) (fun i => la.length - i.1)
  (0, w) ⟨V, V, V, trivial⟩ ⟨rfl, Nat.zero_le _, Fr.refl _ _, fun j hj => absurd hj (Nat.not_lt_zero j)⟩ ?_)
 rintro ⟨i, _⟩ w1 ⟨rfl, hi, h, hall⟩
 simp only at hi h hall ⊢
 refine Af (Af (Aa (Ac V V (Ac V V (AE V (Ay underlying34) V (Al V V (Bh (c := decide (i < la.length)) (decide_eq_decide.2 Int.ofNat_lt.symm)) V (Ae (AK V (fun ht => A_ fun a ha => Ad ?_) (fun hf => AQ fun a ha => Aq (Aq (A3 (Ad ?_))))))))))))
 · have hil : i < la.length := of_decide_eq_true ht
   obtain ⟨ta, hta⟩ : ∃ t, la[i]? = some t := ⟨_, List.getElem?_eq_getElem hil⟩
   obtain ⟨tb, htb⟩ : ∃ t, lb[i]? = some t := ⟨_, List.getElem?_eq_getElem (hle ▸ hil)⟩
   obtain ⟨ba, oa, da, hixa, _, hlta, hAa, ra⟩ := hgeta i ta hta
   obtain ⟨bb, ob, db, hixb, _, hltb, hAb, rb⟩ := hgetb i tb htb
   obtain ⟨fla, rfl, hlena, hFa⟩ := ra.st_inv
   obtain ⟨aa_0, fla, rfl, ra_0, hFa⟩ := hFa.cons_inv
   obtain ⟨aa_1, fla, rfl, ra_1, hFa⟩ := hFa.cons_inv
   obtain rfl := hFa.nil_inv
   simp only [Nat.zero_add, Ty.size] at ra_0 ra_1
   obtain ⟨flb, rfl, hlenb, hFb⟩ := rb.st_inv
   obtain ⟨ab_0, flb, rfl, rb_0, hFb⟩ := hFb.cons_inv
   obtain ⟨ab_1, flb, rfl, rb_1, hFb⟩ := hFb.cons_inv
   obtain rfl := hFb.nil_inv
   simp only [Nat.zero_add, Ty.size] at rb_0 rb_1
   obtain ⟨ma, rfl⟩ := ra_1.is_list
   obtain ⟨mb, rfl⟩ := rb_1.is_list
   obtain ⟨ha', capa', hva', hmla', hgeta'⟩ := Bn ra_1
   obtain ⟨hb', capb', hvb', hmlb', hgetb'⟩ := Bn rb_1
   refine A8 ha (Af (A1 (Af (Af (C_ (F0 w) CE (by kernel_rfl) h.drawn ?_)))))
   clear h
   refine A6 V V (A6 V V (AC V V (fun w => hixa w underlying34 DF V) V (A5 V (fun w => Fz w _ _) V (AM V (fun w h => Ap (f := .str) Cc ra_0 (h.at_ hlta (hAa.sub 0 1))) V (A6 V V (A6 V V (AC V V (fun w => hixb w underlying34 DF V) V (A5 V (fun w => Fz w _ _) V (AM V (fun w h => Ap (f := .str) Cc rb_0 (h.at_ hltb (hAb.sub 0 1))) V (?_))))))))))
   cases hq1 : C6 aa_0 ab_0 with
   | false =>
    refine Bc V V (neq9.guard ra_0 rb_0 _ _) (neq9.run' hq1 ra_0 rb_0) V ?_
    refine BI _ _ _ V (Bm fun w1 h => Ax V ?_)
    exact Af (Aa (Ah V V (Ae (AA fun a ha => Ao (Aw (Ao (Ao (Aw (Ao (Au V ha V ⟨by rw [Bj hta htb (fun e => by cases e; exact Bd hq1 V)], h⟩))))))))))
   | true =>
    refine Bc V V (neq9.guard ra_0 rb_0 _ _) (neq9.run' hq1 ra_0 rb_0) V ?_
    refine A6 V V (Ak (j := 11) V V V (A6 V V (Ak (j := 11) V V V (A6 V V (Ak (j := 11) V V V (AC V V (fun w => hixa w underlying34 DF V) V (Ak (j := 11) V V V (A5 V (fun w => Dg w _ _) V ?_))))))))
    refine Ak (j := 11) V V V (AM (v := .slice ha' ma.length capa') V (fun w h => by rw [← hva']; exact Ap (f := .list (.st .swap)) Fp ra_1 (h.at_ hlta (hAa.sub 1 1))) V (Ak (j := 11) V V V (GK V (fun w => Ay underlying160) V ?_)))
    refine Ak (j := 11) V V V (A6 V V (Ak (j := 11) V V V (A6 V V (Ak (j := 11) V V V (AC V V (fun w => hixb w underlying34 DF V) V (Ak (j := 11) V V V (A5 V (fun w => Dg w _ _) V ?_)))))))
    refine Ak (j := 11) V V V (AM (v := .slice hb' mb.length capb') V (fun w h => by rw [← hvb']; exact Ap (f := .list (.st .swap)) Fp rb_1 (h.at_ hltb (hAb.sub 1 1))) V (Ak (j := 11) V V V (GK V (fun w => Ay underlying160) V ?_)))
    cases hq2 : decide (ma.length ≠ mb.length) with
    | true =>
     refine Ak (j := 11) V V V (CW V V (fun w => by rw [BO (c := decide (ma.length ≠ mb.length)) BZ, hq2]) V (BM V V V (Bm fun w1 h => Ax V ?_)))
     exact Af (Aa (Ah V V (Ae (AA fun a ha => Ao (Aw (Ao (Ao (Aw (Ao (Au V ha V ⟨by rw [Bj hta htb (fun e => by cases e; exact of_decide_eq_true hq2 V)], h⟩))))))))))
    | false =>
     have hml : ma.length = mb.length := Classical.byContradiction (of_decide_eq_false hq2)
     refine Ak (j := 11) V V V (CW V V (fun w => by rw [BO (c := decide (ma.length ≠ mb.length)) BZ, hq2]) V (BM V V V (Bm fun w1 h => A9 V (A_ fun a ha => Ad ?_))))
     refine A8 ha (Af (Aa (Ah V V (Ae ?_))))
     refine A1 (AW (ι := Nat × World) (fun j => [(0, .slice ga la.length capa), (1, .slice gb lb.length capb), (5, .int .i64 (i : Int)), (6, .int .i64 (j.1 : Int))]) (fun j w' => w' = j.2 ∧ j.1 ≤ ma.length ∧ F0 w w' ∧ ∀ k, k < j.1 → ma[k]? = mb[k]?) (fun j => ma.length - j.1)
      (0, w1) ⟨V, V, V, V, trivial⟩ ⟨rfl, Nat.zero_le _, h, fun k hk => absurd hk (Nat.not_lt_zero k)⟩ ?_)
     clear h
     rintro ⟨j, _⟩ w2 ⟨rfl, hj, h, hall'⟩
     simp only at hj h hall' ⊢
     refine Af (Af (Aa (Ac V V (Ac V V (Ac V V (A0 V V (hixa _ underlying34 DF V) V (Ab V (Dg _ _ _) V ?_)))))))
     refine Ai (v := .slice ha' ma.length capa') V (by rw [← hva']; exact Ap (f := .list (.st .swap)) Fp ra_1 (h.at_ hlta (hAa.sub 1 1))) V ?_
     refine AE V (Ay underlying160) V (Al V V (Bh (c := decide (j < ma.length)) (decide_eq_decide.2 Int.ofNat_lt.symm)) V (Ae (AK V (fun ht => A_ fun a ha => Ad ?_) (fun hf => AQ fun a ha => Aq (Aq (A3 (Az (Ad ?_))))))))
     · have hjl : j < ma.length := of_decide_eq_true ht
       obtain ⟨sa, hsa⟩ : ∃ t, ma[j]? = some t := ⟨_, List.getElem?_eq_getElem hjl⟩
       obtain ⟨sb, hsb⟩ : ∃ t, mb[j]? = some t := ⟨_, List.getElem?_eq_getElem (hml ▸ hjl)⟩
       obtain ⟨bsa, osa, dsa, hixsa, _, hltsa, hAsa, rsa⟩ := hgeta' j sa hsa
       obtain ⟨bsb, osb, dsb, hixsb, _, hltsb, hAsb, rsb⟩ := hgetb' j sb hsb
       refine A8 ha (Af (A1 (Af (C_ (F0 w) CE (by kernel_rfl) h.drawn ?_))))
       clear h
       refine A6 V V (A6 V V (AC V V (fun w => hixa w underlying34 DF V) V (A5 V (fun w => Dg w _ _) V ?_)))
       refine AM (v := .slice ha' ma.length capa') V (fun w h => by rw [← hva']; exact Ap (f := .list (.st .swap)) Fp ra_1 (h.at_ hlta (hAa.sub 1 1))) V ?_
       refine A6 V V (AC V V (fun w => hixsa w underlying160 Fk V) V (AM V (fun w h => Ap (f := .st .swap) Fk rsa (h.at_ hltsa hAsa)) V ?_))
       refine A6 V V (A6 V V (AC V V (fun w => hixb w underlying34 DF V) V (A5 V (fun w => Dg w _ _) V ?_)))
       refine AM (v := .slice hb' mb.length capb') V (fun w h => by rw [← hvb']; exact Ap (f := .list (.st .swap)) Fp rb_1 (h.at_ hltb (hAb.sub 1 1))) V ?_
       refine A6 V V (AC V V (fun w => hixsb w underlying160 Fk V) V (AM V (fun w h => Ap (f := .st .swap) Fk rsb (h.at_ hltsb hAsb)) V ?_))
       cases hq3 : C6 sa sb with
       | false =>
        refine Bc V V (neq170.guard rsa rsb _ _) (neq170.run' hq3 rsa rsb) V ?_
        refine BI _ _ _ V (Bm fun w1 h => Ax V ?_)
        exact Af (Aa (Ah V V (Ae (AA fun a ha => Aw (Ao (Ao (Aw (Aw (Ao (Ao (Aw (Ao (Au V ha V ⟨by rw [Bj hta htb (fun e => by cases e; exact Bd hq3 (Option.some.inj (hsa.symm.trans hsb)))], h⟩)))))))))))))
       | true =>
        refine Bc V V (neq170.guard rsa rsb _ _) (neq170.run' hq3 rsa rsb) V ?_
        refine Bm fun w2 h => A9 V (A_ fun a ha => Az (Ad ?_))
        refine A8 ha (Aa (Ac V V (Al V V V V (Ah V V (A2 fun a ha => Ad ?_)))))
        exact ⟨(j + 1, w2), ha.weak ⟨rfl, rfl, rfl, congrArg some (AS (BS hjl hmla')), trivial⟩, ⟨rfl, hjl, h, C9 hall' hsa hsb (AZ hq3)⟩, Nat.sub_lt_sub_left hjl (Nat.lt_succ_self j)⟩
     · have hend : j = ma.length := Nat.le_antisymm hj (Nat.le_of_not_lt (of_decide_eq_false hf))
       refine A8 ha (Aa (Ac V V (Al V V V V (Ah V V (A2 fun a ha => Ad ?_)))))
       exact ⟨(i + 1, w2), ha.weak ⟨rfl, rfl, congrArg some (AS (BS hil hmla)), trivial⟩, ⟨rfl, hil, h, C9 hall hta htb (by rw [AZ hq1, AZ (CA hml hend hall')])⟩, Nat.sub_lt_sub_left hil (Nat.lt_succ_self i)⟩
 · have hend : i = la.length := Nat.le_antisymm hi (Nat.le_of_not_lt (of_decide_eq_false hf))
   exact A8 ha (Af (Aa (Ah V V (Ae (AA fun a ha => Au V ha V ⟨by rw [CA hle hend hall], h⟩)))))
end Go.Sx
namespace Go.Sx
open Go.Proofs Go.Proofs.Tryz
theorem RG {t u : T} : SEnc 41 (.list (.st .accum)) t u := by
 intro w S cs ds hr hk
 obtain ⟨la, rfl⟩ := hr.is_list
 obtain ⟨lb, rfl⟩ := hk.is_list
 obtain ⟨ga, capa, hva, hmla, hgeta⟩ := Bn hr
 obtain ⟨gb, capb, hvb, hmlb, hgetb⟩ := Bn hk
 rw [hva, hvb]
 obtain ⟨Z, hz, hzl⟩ : ∃ Z : List Value, (∀ w, (zeroValue 182).run prog w = .ok (.agg Z.toArray) w) ∧ Z.length = 18 := ⟨_, zeroValue182, rfl⟩
 refine AB 107 func41 V V V ?_
 refine Af (Aa (Ah V V (Ae ?_)))
 refine Af (Af (Aa (Ac V V (AE V (Ay underlying31) V (Ac V V (AE V (Ay underlying31) V (Al V V (BO (c := decide (la.length ≠ lb.length)) BZ) V (Ae (AK V (fun ht => ?_) (fun hf => A_ fun a ha => Ad ?_))))))))))
 · have hne : la.length ≠ lb.length := of_decide_eq_true ht
   refine Af (Aa (Ah V V (Ae (AA fun a ha => Ao (Au V ha V ⟨by rw [Da hne], Fr.refl _ _⟩)))))
 have hle : la.length = lb.length := Classical.byContradiction (of_decide_eq_false hf)
 refine A8 ha (Af (Af (Aa (Ah V V (Ae ?_)))))
 refine A1 (AW (ι := Nat × World) (fun i => [(0, .slice ga la.length capa), (1, .slice gb lb.length capb), (5, .int .i64 (i.1 : Int))]) (fun i w' => w' = i.2 ∧ i.1 ≤ la.length ∧ F0 w w' ∧ ∀ j, j < i.1 → la[j]? = lb[j]?) (fun i => la.length - i.1)
  (0, w) ⟨V, V, V, trivial⟩ ⟨rfl, Nat.zero_le _, Fr.refl _ _, fun j hj => absurd hj (Nat.not_lt_zero j)⟩ ?_)
 rintro ⟨i, _⟩ w1 ⟨rfl, hi, h, hall⟩
 simp only at hi h hall ⊢
 refine Af (Af (Aa (Ac V V (Ac V V (AE V (Ay underlying31) V (Al V V (Bh (c := decide (i < la.length)) (decide_eq_decide.2 Int.ofNat_lt.symm)) V (Ae (AK V (fun ht => A_ fun a ha => Ad ?_) (fun hf => AQ fun a ha => Aq (Aq (A3 (Ad ?_))))))))))))
 · have hil : i < la.length := of_decide_eq_true ht
   obtain ⟨ta, hta⟩ : ∃ t, la[i]? = some t := ⟨_, List.getElem?_eq_getElem hil⟩
   obtain ⟨tb, htb⟩ : ∃ t, lb[i]? = some t := ⟨_, List.getElem?_eq_getElem (hle ▸ hil)⟩
   obtain ⟨ba, oa, da, hixa, _, hlta, hAa, ra⟩ := hgeta i ta hta
   obtain ⟨bb, ob, db, hixb, _, hltb, hAb, rb⟩ := hgetb i tb htb
   obtain ⟨fla, rfl, hlena, hFa⟩ := ra.st_inv
   obtain ⟨aa_0, fla, rfl, ra_0, hFa⟩ := hFa.cons_inv
   obtain ⟨aa_1, fla, rfl, ra_1, hFa⟩ := hFa.cons_inv
   obtain ⟨aa_2, fla, rfl, ra_2, hFa⟩ := hFa.cons_inv
   obtain rfl := hFa.nil_inv
   simp only [Nat.zero_add, Nat.reduceAdd, Ty.size, SN.size] at ra_0 ra_1 ra_2
   obtain ⟨flb, rfl, hlenb, hFb⟩ := rb.st_inv
   obtain ⟨ab_0, flb, rfl, rb_0, hFb⟩ := hFb.cons_inv
   obtain ⟨ab_1, flb, rfl, rb_1, hFb⟩ := hFb.cons_inv
   obtain ⟨ab_2, flb, rfl, rb_2, hFb⟩ := hFb.cons_inv
   obtain rfl := hFb.nil_inv
   simp only [Nat.zero_add, Nat.reduceAdd, Ty.size, SN.size] at rb_0 rb_1 rb_2
   obtain ⟨ma, rfl⟩ := ra_2.is_list
   obtain ⟨mb, rfl⟩ := rb_2.is_list
   obtain ⟨ha', capa', hva', hmla', hgeta'⟩ := Bn ra_2
   obtain ⟨hb', capb', hvb', hmlb', hgetb'⟩ := Bn rb_2
   refine A8 ha (Af (A1 (Af (Af (C_ (F0 w) CE (by kernel_rfl) h.drawn ?_)))))
   clear h
   refine A6 V V (A6 V V (AC V V (fun w => hixa w underlying31 Ds V) V (A5 V (fun w => Fx w _ _) V (AM V (fun w h => Ap (f := .str) Cc ra_0 (h.at_ hlta (hAa.sub 0 1))) V (A6 V V (A6 V V (AC V V (fun w => hixb w underlying31 Ds V) V (A5 V (fun w => Fx w _ _) V (AM V (fun w h => Ap (f := .str) Cc rb_0 (h.at_ hltb (hAb.sub 0 1))) V (?_))))))))))
   cases hq1 : C6 aa_0 ab_0 with
   | false =>
    refine Bc V V (neq9.guard ra_0 rb_0 _ _) (neq9.run' hq1 ra_0 rb_0) V ?_
    refine BI _ _ _ V (Bm fun w1 h => Ax V ?_)
    exact Af (Aa (Ah V V (Ae (AA fun a ha => Ao (Aw (Ao (Ao (Aw (Ao (Au V ha V ⟨by rw [Bj hta htb (fun e => by cases e; exact Bd hq1 V)], h⟩))))))))))
   | true =>
    refine Bc V V (neq9.guard ra_0 rb_0 _ _) (neq9.run' hq1 ra_0 rb_0) V ?_
    refine A6 V V ?_
    refine Ak (j := 11) V V V (A6 V V (Ak (j := 11) V V V (A6 V V (Ak (j := 11) V V V (AC V V (fun w => hixa w underlying31 Ds V) V (Ak (j := 11) V V V (A5 V (fun w => Gv w _ _) V (Ak (j := 11) V V V (AM V (fun w h => Ap (f := .st .expr) BY ra_1 (h.at_ hlta (hAa.sub 1 16))) V ?_)))))))))
    refine Ak (j := 11) V V V (A6 V V (Ak (j := 11) V V V (A6 V V (Ak (j := 11) V V V (AC V V (fun w => hixb w underlying31 Ds V) V (Ak (j := 11) V V V (A5 V (fun w => Gv w _ _) V (Ak (j := 11) V V V (AM V (fun w h => Ap (f := .st .expr) BY rb_1 (h.at_ hltb (hAb.sub 1 16))) V ?_)))))))))
    cases hq2 : C6 aa_1 ab_1 with
    | false =>
     refine Ak (j := 11) V V V (Cf call94 V V (SEnc.quiet (sX _ _) hq2 ra_1 rb_1) (Ak (j := 11) V V V (C4 V V ?_)))
     refine BI _ _ _ V (Bm fun w1 h => Ax V ?_)
     exact Af (Aa (Ah V V (Ae (AA fun a ha => Ao (Aw (Ao (Ao (Aw (Ao (Au V ha V ⟨by rw [Bj hta htb (fun e => by cases e; exact Bd hq2 V)], h⟩))))))))))
    | true =>
     refine Ak (j := 11) V V V (Cf call94 V V (SEnc.quiet (sX _ _) hq2 ra_1 rb_1) (Ak (j := 11) V V V (C4 V V (BM V V V ?_))))
     refine A6 V V (Ak (j := 25) V V V (A6 V V (Ak (j := 25) V V V (A6 V V (Ak (j := 25) V V V (AC V V (fun w => hixa w underlying31 Ds V) V (Ak (j := 25) V V V (A5 V (fun w => CZ w _ _) V ?_))))))))
     refine Ak (j := 25) V V V (AM (v := .slice ha' ma.length capa') V (fun w h => by rw [← hva']; exact Ap (f := .list (.st .rule)) Fb ra_2 (h.at_ hlta (hAa.sub 17 1))) V (Ak (j := 25) V V V (GK V (fun w => Ay underlying149) V ?_)))
     refine Ak (j := 25) V V V (A6 V V (Ak (j := 25) V V V (A6 V V (Ak (j := 25) V V V (AC V V (fun w => hixb w underlying31 Ds V) V (Ak (j := 25) V V V (A5 V (fun w => CZ w _ _) V ?_)))))))
     refine Ak (j := 25) V V V (AM (v := .slice hb' mb.length capb') V (fun w h => by rw [← hvb']; exact Ap (f := .list (.st .rule)) Fb rb_2 (h.at_ hltb (hAb.sub 17 1))) V (Ak (j := 25) V V V (GK V (fun w => Ay underlying149) V ?_)))
     cases hql : decide (ma.length ≠ mb.length) with
     | true =>
      refine Ak (j := 25) V V V (CW V V (fun w => by rw [BO (c := decide (ma.length ≠ mb.length)) BZ, hql]) V (BM V V V (Bm fun w1 h => Ax V ?_)))
      exact Af (Aa (Ah V V (Ae (AA fun a ha => Ao (Aw (Ao (Ao (Aw (Ao (Au V ha V ⟨by rw [Bj hta htb (fun e => by cases e; exact of_decide_eq_true hql V)], h⟩))))))))))
     | false =>
      have hml : ma.length = mb.length := Classical.byContradiction (of_decide_eq_false hql)
      refine Ak (j := 25) V V V (CW V V (fun w => by rw [BO (c := decide (ma.length ≠ mb.length)) BZ, hql]) V (BM V V V (Bm fun w1 h => A9 V (A_ fun a ha => Ad ?_))))
      refine A8 ha (Af (Aa (Ah V V (Ae ?_))))
      refine A1 (AW (ι := Nat × World) (fun j => [(0, .slice ga la.length capa), (1, .slice gb lb.length capb), (5, .int .i64 (i : Int)), (6, .int .i64 (j.1 : Int))]) (fun j w' => w' = j.2 ∧ j.1 ≤ ma.length ∧ F0 w w' ∧ ∀ k, k < j.1 → ma[k]? = mb[k]?) (fun j => ma.length - j.1)
       (0, w1) ⟨V, V, V, V, trivial⟩ ⟨rfl, Nat.zero_le _, h, fun k hk => absurd hk (Nat.not_lt_zero k)⟩ ?_)
      clear h
      rintro ⟨j, _⟩ w2 ⟨rfl, hj, h, hall'⟩
      simp only at hj h hall' ⊢
      refine Af (Af (Aa (Ac V V (Ac V V (Ac V V (A0 V V (hixa _ underlying31 Ds V) V (Ab V (CZ _ _ _) V ?_)))))))
      refine Ai (v := .slice ha' ma.length capa') V (by rw [← hva']; exact Ap (f := .list (.st .rule)) Fb ra_2 (h.at_ hlta (hAa.sub 17 1))) V ?_
      refine AE V (Ay underlying149) V (Al V V (Bh (c := decide (j < ma.length)) (decide_eq_decide.2 Int.ofNat_lt.symm)) V (Ae (AK V (fun ht => A_ fun a ha => Ad ?_) (fun hf => AQ fun a ha => Aq (Aq (A3 (Az (Ad ?_))))))))
      · have hjl : j < ma.length := of_decide_eq_true ht
        obtain ⟨sa, hsa⟩ : ∃ t, ma[j]? = some t := ⟨_, List.getElem?_eq_getElem hjl⟩
        obtain ⟨sb, hsb⟩ : ∃ t, mb[j]? = some t := ⟨_, List.getElem?_eq_getElem (hml ▸ hjl)⟩
        obtain ⟨bsa, osa, dsa, hixsa, _, hltsa, hAsa, rsa⟩ := hgeta' j sa hsa
        obtain ⟨bsb, osb, dsb, hixsb, _, hltsb, hAsb, rsb⟩ := hgetb' j sb hsb
        refine A8 ha (Af (A1 ?_))
        have honea := Rep.one _ _ _ rsa
        obtain ⟨wa, hsta, aba, fa⟩ := Dd (w := w2) (z := .agg Z.toArray) (zs := Z) Ew rfl hzl honea.1 honea.2
        refine Af (Aa (Ac V V (Ac V V (A0 V V (hixa _ underlying31 Ds V) V (Ab V (CZ _ _ _) V ?_)))))
        refine Ai (v := .slice ha' ma.length capa') V (by rw [← hva']; exact Ap (f := .list (.st .rule)) Fb ra_2 (h.at_ hlta (hAa.sub 17 1))) V ?_
        refine Ac V V (A0 V V (hixsa _ underlying149 Ew V) V (Ai V (Ap (f := .st .rule) Ew rsa (h.at_ hltsa hAsa)) V (AO (hz _) V (An V V hsta (Ae ?_)))))
        replace h : F0 w wa := h.trans fa
        have honeb := Rep.one _ _ _ rsb
        obtain ⟨wb, hstb, abb, fb⟩ := Dd (w := wa) (z := .agg Z.toArray) (zs := Z) Ew rfl hzl honeb.1 honeb.2
        refine Af (Aa (Ac V V (Ac V V (A0 V V (hixb _ underlying31 Ds V) V (Ab V (CZ _ _ _) V ?_)))))
        refine Ai (v := .slice hb' mb.length capb') V (by rw [← hvb']; exact Ap (f := .list (.st .rule)) Fb rb_2 (h.at_ hltb (hAb.sub 17 1))) V ?_
        refine Ac V V (A0 V V (hixsb _ underlying149 Ew V) V (Ai V (Ap (f := .st .rule) Ew rsb (h.at_ hltsb hAsb)) V (AO (hz _) V (An V V hstb (Ae ?_)))))
        replace h : F0 w wb := h.trans fb
        replace aba := (fb.blk _ aba.lt (fun h => h)).trans aba
        have hbase := h
        clear h hsta hstb fa fb
        generalize wa.heap.size = bxb at abb ⊢
        generalize w2.heap.size = bxa at aba ⊢
        replace aba : Blk wb bxa dsa 182 := aba
        replace rsa := rsa.fresh hbase
        replace rsb := rsb.fresh hbase
        have hltxa := aba.lt
        have hltxb := abb.lt
        have hAxa := aba.all
        have hAxb := abb.all
        obtain ⟨w1, hw1⟩ : ∃ w1, w1 = wb := ⟨_, rfl⟩
        have h : F0 wb w1 := by rw [hw1]; exact Fr.refl _ _
        rw [← hw1]
        clear hw1
        refine Dc [(0, .slice ga la.length capa), (1, .slice gb lb.length capb), (5, .int .i64 (i : Int)), (6, .int .i64 (j : Int)), (7, ptr bxa), (8, ptr bxb)] ⟨V, V, V, V, V, V, trivial⟩ ?_
        obtain ⟨gla, rfl, hlena', hGa⟩ := rsa.st_inv
        obtain ⟨ca_0, gla, rfl, sa_0, hGa⟩ := hGa.cons_inv
        obtain ⟨ca_1, gla, rfl, sa_1, hGa⟩ := hGa.cons_inv
        obtain ⟨ca_2, gla, rfl, sa_2, hGa⟩ := hGa.cons_inv
        obtain rfl := hGa.nil_inv
        simp only [Nat.zero_add, Nat.reduceAdd, Ty.size, SN.size] at sa_0 sa_1 sa_2
        obtain ⟨glb, rfl, hlenb', hGb⟩ := rsb.st_inv
        obtain ⟨cb_0, glb, rfl, sb_0, hGb⟩ := hGb.cons_inv
        obtain ⟨cb_1, glb, rfl, sb_1, hGb⟩ := hGb.cons_inv
        obtain ⟨cb_2, glb, rfl, sb_2, hGb⟩ := hGb.cons_inv
        obtain rfl := hGb.nil_inv
        simp only [Nat.zero_add, Nat.reduceAdd, Ty.size, SN.size] at sb_0 sb_1 sb_2
        refine Af (Aa ?_)
        refine (Ab V (FJ _ _ _) V ((Ai V (Ap (f := .bool) Dp sa_1 (h.at_ hltxa (hAxa.sub 1 1))) V ?_)))
        refine (Ab V (FJ _ _ _) V ((Ai V (Ap (f := .bool) Dp sb_1 (h.at_ hltxb (hAxb.sub 1 1))) V ?_)))
        cases hr1 : C6 ca_1 cb_1 with
        | false =>
         refine AG V V (neq4.guard sa_1 sb_1 _ _ _) (neq4.run' hr1 sa_1 sb_1 _) V ?_
         refine AY _ _ _ V (Ae (Ax V ?_))
         exact Af (Aa (Ah V V (Ae (AA fun a ha => Aw (Ao (Ao (Aw (Aw (Ao (Ao (Aw (Ao (Au V ha V ⟨by rw [Bj hta htb (fun e => by cases e; exact Bd hr1 (by have := Option.some.inj (hsa.symm.trans hsb); cases this; rfl))], hbase.trans h⟩)))))))))))))
        | true =>
         refine AG V V (neq4.guard sa_1 sb_1 _ _ _) (neq4.run' hr1 sa_1 sb_1 _) V (Ac V V ?_)
         refine Ag (j := 5) V V V (Ab V (FR _ _ _) V (Ag (j := 5) V V V (Ai V (Ap (f := .list (.st .expr)) Eh sa_0 (h.at_ hltxa (hAxa.sub 0 1))) V ?_)))
         refine Ag (j := 5) V V V (Ab V (FR _ _ _) V (Ag (j := 5) V V V (Ai V (Ap (f := .list (.st .expr)) Eh sb_0 (h.at_ hltxb (hAxb.sub 0 1))) V ?_)))
         cases hr0 : C6 ca_0 cb_0 with
         | false =>
          refine Ag (j := 5) V V V (Aj call90 V V (SEnc.call Ni hr0 sa_0 sb_0 h) ?_ Be)
          clear h
          rintro _ w1 ⟨rfl, h⟩
          refine Ag (j := 5) V V V (Bt V V ?_)
          refine AY _ _ _ V (Ae (Ax V ?_))
          exact Af (Aa (Ah V V (Ae (AA fun a ha => Aw (Ao (Ao (Aw (Aw (Ao (Ao (Aw (Ao (Au V ha V ⟨by rw [Bj hta htb (fun e => by cases e; exact Bd hr0 (by have := Option.some.inj (hsa.symm.trans hsb); cases this; rfl))], hbase.trans h⟩)))))))))))))
         | true =>
          refine Ag (j := 5) V V V (Aj call90 V V (SEnc.call Ni hr0 sa_0 sb_0 h) ?_ Be)
          clear h
          rintro _ w1 ⟨rfl, h⟩
          refine Ag (j := 5) V V V (Bt V V (AI V V V (Ac V V ?_)))
          refine Ag (j := 13) V V V (Ab V (FC _ _ _) V (Ag (j := 13) V V V (Ai V (Ap (f := .st .expr) BY sa_2 (h.at_ hltxa (hAxa.sub 2 16))) V ?_)))
          refine Ag (j := 13) V V V (Ab V (FC _ _ _) V (Ag (j := 13) V V V (Ai V (Ap (f := .st .expr) BY sb_2 (h.at_ hltxb (hAxb.sub 2 16))) V ?_)))
          cases hr2 : C6 ca_2 cb_2 with
          | false =>
           refine Ag (j := 13) V V V (Aj call94 V V (SEnc.call (sX _ _) hr2 sa_2 sb_2 h) ?_ Be)
           clear h
           rintro _ w1 ⟨rfl, h⟩
           refine Ag (j := 13) V V V (Bt V V ?_)
           refine AY _ _ _ V (Ae (Ax V ?_))
           exact Af (Aa (Ah V V (Ae (AA fun a ha => Aw (Ao (Ao (Aw (Aw (Ao (Ao (Aw (Ao (Au V ha V ⟨by rw [Bj hta htb (fun e => by cases e; exact Bd hr2 (by have := Option.some.inj (hsa.symm.trans hsb); cases this; rfl))], hbase.trans h⟩)))))))))))))
          | true =>
           refine Ag (j := 13) V V V (Aj call94 V V (SEnc.call (sX _ _) hr2 sa_2 sb_2 h) ?_ Be)
           clear h
           rintro _ w1 ⟨rfl, h⟩
           refine Ag (j := 13) V V V (Bt V V (AI V V V (Ae (A9 V (A_ fun a ha => Az (Ad ?_))))))
           refine A8 ha (Aa (Ac V V (Al V V V V (Ah V V (A2 fun a ha => Ad ?_)))))
           exact ⟨(j + 1, w1), ha.weak ⟨rfl, rfl, rfl, congrArg some (AS (BS hjl hmla')), trivial⟩, ⟨rfl, hjl, hbase.trans h, C9 hall' hsa hsb (by rw [AZ hr0, AZ hr1, AZ hr2])⟩, Nat.sub_lt_sub_left hjl (Nat.lt_succ_self j)⟩
      · have hend : j = ma.length := Nat.le_antisymm hj (Nat.le_of_not_lt (of_decide_eq_false hf))
        refine A8 ha (Aa (Ac V V (Al V V V V (Ah V V (A2 fun a ha => Ad ?_)))))
        exact ⟨(i + 1, w2), ha.weak ⟨rfl, rfl, congrArg some (AS (BS hil hmla)), trivial⟩, ⟨rfl, hil, h, C9 hall hta htb (by rw [AZ hq1, AZ hq2, AZ (CA hml hend hall')])⟩, Nat.sub_lt_sub_left hil (Nat.lt_succ_self i)⟩
 · have hend : i = la.length := Nat.le_antisymm hi (Nat.le_of_not_lt (of_decide_eq_false hf))
   exact A8 ha (Af (Aa (Ah V V (Ae (AA fun a ha => Au V ha V ⟨by rw [CA hle hend hall], h⟩)))))
end Go.Sx
namespace Go.Sx
open Go.Proofs Go.Proofs.Tryz
theorem Si {t u : T} (ih : ∀ t' u', t'.wt < t.wt → SEnc 36 (.list (.st .use)) t' u') : SEnc 17 (.st .sheet) t u := by
 intro w S cs ds hr hk
 have hN : t.wt ≤ t.wt := Nat.le_refl _
 refine AB 92 func17 V V V ?_
 refine Af (Aa (Cd (v := .agg cs.toArray) V V ?_))
 have fa : F0 w (w.alloc (.cells cs.toArray 36)) := Fr.alloc _ _ _
 have aba : Blk (w.alloc (.cells cs.toArray 36)) w.heap.size cs 36 := AN
 show WL _ _ _ _ _ _ _ (w.alloc (.cells cs.toArray 36))
 generalize w.alloc (.cells cs.toArray 36) = wa at fa aba ⊢
 generalize w.heap.size = bxa at aba ⊢
 refine Cd (v := .agg ds.toArray) V V ?_
 have fb : F0 wa (wa.alloc (.cells ds.toArray 36)) := Fr.alloc _ _ _
 have abb : Blk (wa.alloc (.cells ds.toArray 36)) wa.heap.size ds 36 := AN
 show WL _ _ _ _ _ _ _ (wa.alloc (.cells ds.toArray 36))
 generalize wa.alloc (.cells ds.toArray 36) = wb at fb abb ⊢
 generalize wa.heap.size = bxb at abb ⊢
 have fw : F0 w wb := fa.trans fb
 replace aba : Blk wb bxa cs 36 := (fb.blk _ aba.lt (fun h => h)).trans aba
 have ra := hr.fresh fw
 have rb := hk.fresh fw
 have hlta := aba.lt
 have hltb := abb.lt
 have hAa := aba.all
 have hAb := abb.all
 have h : F0 wb wb := Fr.refl _ _
 obtain ⟨fla, rfl, hlena, hFa⟩ := ra.st_inv
 obtain ⟨aa_0, fla, rfl, ra_0, hFa⟩ := hFa.cons_inv
 obtain ⟨aa_1, fla, rfl, ra_1, hFa⟩ := hFa.cons_inv
 obtain ⟨aa_2, fla, rfl, ra_2, hFa⟩ := hFa.cons_inv
 obtain ⟨aa_3, fla, rfl, ra_3, hFa⟩ := hFa.cons_inv
 obtain ⟨aa_4, fla, rfl, ra_4, hFa⟩ := hFa.cons_inv
 obtain ⟨aa_5, fla, rfl, ra_5, hFa⟩ := hFa.cons_inv
 obtain ⟨aa_6, fla, rfl, ra_6, hFa⟩ := hFa.cons_inv
 obtain ⟨aa_7, fla, rfl, ra_7, hFa⟩ := hFa.cons_inv
 obtain ⟨aa_8, fla, rfl, ra_8, hFa⟩ := hFa.cons_inv
 obtain ⟨aa_9, fla, rfl, ra_9, hFa⟩ := hFa.cons_inv
 obtain rfl := hFa.nil_inv
 simp only [Nat.zero_add, Nat.reduceAdd, Ty.size] at ra_0 ra_1 ra_2 ra_3 ra_4 ra_5 ra_6 ra_7 ra_8 ra_9
 obtain ⟨flb, rfl, hlenb, hFb⟩ := rb.st_inv
 obtain ⟨ab_0, flb, rfl, rb_0, hFb⟩ := hFb.cons_inv
 obtain ⟨ab_1, flb, rfl, rb_1, hFb⟩ := hFb.cons_inv
 obtain ⟨ab_2, flb, rfl, rb_2, hFb⟩ := hFb.cons_inv
 obtain ⟨ab_3, flb, rfl, rb_3, hFb⟩ := hFb.cons_inv
 obtain ⟨ab_4, flb, rfl, rb_4, hFb⟩ := hFb.cons_inv
 obtain ⟨ab_5, flb, rfl, rb_5, hFb⟩ := hFb.cons_inv
 obtain ⟨ab_6, flb, rfl, rb_6, hFb⟩ := hFb.cons_inv
 obtain ⟨ab_7, flb, rfl, rb_7, hFb⟩ := hFb.cons_inv
 obtain ⟨ab_8, flb, rfl, rb_8, hFb⟩ := hFb.cons_inv
 obtain ⟨ab_9, flb, rfl, rb_9, hFb⟩ := hFb.cons_inv
 obtain rfl := hFb.nil_inv
 simp only [Nat.zero_add, Nat.reduceAdd, Ty.size] at rb_0 rb_1 rb_2 rb_3 rb_4 rb_5 rb_6 rb_7 rb_8 rb_9
 have hu : aa_1.wt < (T.agg .sheet [aa_0, aa_1, aa_2, aa_3, aa_4, aa_5, aa_6, aa_7, aa_8, aa_9]).wt := by
  have := B5 (t := aa_1) (l := [aa_0, aa_1, aa_2, aa_3, aa_4, aa_5, aa_6, aa_7, aa_8, aa_9]) (by simp)
  rw [BX]; omega
 obtain ⟨ma, rfl⟩ := ra_7.is_list
 obtain ⟨mb, rfl⟩ := rb_7.is_list
 obtain ⟨ga, capa, hva, hmla, hgeta⟩ := Bn ra_7
 obtain ⟨gb, capb, hvb, hmlb, hgetb⟩ := Bn rb_7
 refine Ah V V (Ar [(2, ptr bxa), (3, ptr bxb)] ⟨V, V, trivial⟩ ?_)
 obtain ⟨w1, hw1⟩ : ∃ w1, w1 = wb := ⟨_, rfl⟩
 have h : F0 wb w1 := by rw [hw1]; exact Fr.refl _ _
 rw [← hw1]
 clear hw1
 refine Af (Af (Aa ?_))
 refine (Ab V (G_ _ _ _) V ((Ai V (Ap (f := .str) Cc ra_0 (h.at_ hlta (hAa.sub 0 1))) V ?_)))
 refine (Ab V (G_ _ _ _) V ((Ai V (Ap (f := .str) Cc rb_0 (h.at_ hltb (hAb.sub 0 1))) V ?_)))
 cases hq0 : C6 aa_0 ab_0 with
 | false =>
  refine AG V V (neq9.guard ra_0 rb_0 _ _ _) (neq9.run' hq0 ra_0 rb_0 _) V ?_
  refine AY _ _ _ V (Ae (Ax V ?_))
  exact Af (Aa (Ah V V (Ae (AA fun a ha => Ao (Au V ha V ⟨by rw [BL (fun e => by cases e; exact Bd hq0 V)], fw.trans h⟩)))))
 | true =>
 refine AG V V (neq9.guard ra_0 rb_0 _ _ _) (neq9.run' hq0 ra_0 rb_0 _) V (Ac V V ?_)
 refine Ag (j := 5) V V V (Ab V (CO _ _ _) V (Ag (j := 5) V V V (Ai (v := .slice ga ma.length capa) V (by rw [← hva]; exact Ap (f := .list (.st .mode)) GV ra_7 (h.at_ hlta (hAa.sub 7 1))) V ?_)))
 refine Ag (j := 5) V V V (AE V (Ay underlying32) V ?_)
 refine Ag (j := 5) V V V (Ab V (CO _ _ _) V (Ag (j := 5) V V V (Ai (v := .slice gb mb.length capb) V (by rw [← hvb]; exact Ap (f := .list (.st .mode)) GV rb_7 (h.at_ hltb (hAb.sub 7 1))) V ?_)))
 refine Ag (j := 5) V V V (AE V (Ay underlying32) V ?_)
 cases hql : decide (ma.length ≠ mb.length) with
 | true =>
  refine Ag (j := 5) V V V (Al V V (by rw [BO (c := decide (ma.length ≠ mb.length)) BZ, hql]) V (AI V V V (Ae (Ax V ?_))))
  exact Af (Aa (Ah V V (Ae (AA fun a ha => Ao (Au V ha V ⟨by rw [BL (fun e => by cases e; exact of_decide_eq_true hql V)], fw.trans h⟩)))))
 | false =>
 have hml : ma.length = mb.length := Classical.byContradiction (of_decide_eq_false hql)
 refine Ag (j := 5) V V V (Al V V (by rw [BO (c := decide (ma.length ≠ mb.length)) BZ, hql]) V (AI V V V (Ae (A9 V (A_ fun a ha => Ad ?_)))))
 refine A8 ha (Af (Af (Aa (Ah V V (Ae ?_)))))
 refine A1 (AW (ι := Nat × World) (fun i => [(2, ptr bxa), (3, ptr bxb), (5, .int .i64 (i.1 : Int))]) (fun i w' => w' = i.2 ∧ i.1 ≤ ma.length ∧ F0 wb w' ∧ ∀ j, j < i.1 → ma[j]? = mb[j]?) (fun i => ma.length - i.1)
  (0, w1) ⟨V, V, V, trivial⟩ ⟨rfl, Nat.zero_le _, h, fun j hj => absurd hj (Nat.not_lt_zero j)⟩ ?_)
 clear h
 rintro ⟨i, _⟩ w1 ⟨rfl, hi, h, hall⟩
 simp only at hi h hall ⊢
 refine Af (Af (Aa (Ac V V ?_)))
 refine (Ab V (CO _ _ _) V ((Ai (v := .slice ga ma.length capa) V (by rw [← hva]; exact Ap (f := .list (.st .mode)) GV ra_7 (h.at_ hlta (hAa.sub 7 1))) V ?_)))
 refine AE V (Ay underlying32) V (Al V V (Bh (c := decide (i < ma.length)) (decide_eq_decide.2 Int.ofNat_lt.symm)) V (Ae (AK V (fun ht => A_ fun a ha => Ad ?_) (fun hf => AQ fun a ha => Aq (Aq (A3 (Ad ?_)))))))
 · have hil : i < ma.length := of_decide_eq_true ht
   obtain ⟨ta, hta⟩ : ∃ t, ma[i]? = some t := ⟨_, List.getElem?_eq_getElem hil⟩
   obtain ⟨tb, htb⟩ : ∃ t, mb[i]? = some t := ⟨_, List.getElem?_eq_getElem (hml ▸ hil)⟩
   obtain ⟨ba, oa, da, hixa, _, hltsa, hAsa, sa⟩ := hgeta i ta hta
   obtain ⟨bb, ob, db, hixb, _, hltsb, hAsb, sb⟩ := hgetb i tb htb
   refine A8 ha (Af (A1 (Af (C_ (F0 wb) CE (by kernel_rfl) h.drawn ?_))))
   clear h
   refine A5 V (fun w => CO w _ _) V (AM (v := .slice ga ma.length capa) V (fun w h => by rw [← hva]; exact Ap (f := .list (.st .mode)) GV ra_7 (h.at_ hlta (hAa.sub 7 1))) V (A6 V V (AC V V (fun w => hixa w underlying32 Gz V) V (AM V (fun w h => Ap (f := .st .mode) Gz sa (h.at_ hltsa hAsa)) V ?_))))
   refine A5 V (fun w => CO w _ _) V (AM (v := .slice gb mb.length capb) V (fun w h => by rw [← hvb]; exact Ap (f := .list (.st .mode)) GV rb_7 (h.at_ hltb (hAb.sub 7 1))) V (A6 V V (AC V V (fun w => hixb w underlying32 Gz V) V (AM V (fun w h => Ap (f := .st .mode) Gz sb (h.at_ hltsb hAsb)) V ?_))))
   cases hqs : C6 ta tb with
   | false =>
    refine Bc V V (neq84.guard sa sb _ _) (neq84.run' hqs sa sb) V ?_
    refine BI _ _ _ V (Bm fun w1 h => Ax V ?_)
    exact Af (Aa (Ah V V (Ae (AA fun a ha => Aw (Ao (Ao (Aw (Ao (Au V ha V ⟨by rw [BL (fun e => by cases e; exact Bd hqs (Option.some.inj (hta.symm.trans htb)))], fw.trans h⟩)))))))))
   | true =>
    refine Bc V V (neq84.guard sa sb _ _) (neq84.run' hqs sa sb) V ?_
    refine Bm fun w1 h => A9 V (A_ fun a ha => Az (Ad ?_))
    refine A8 ha (Aa (Ac V V (Al V V V V (Ah V V (A2 fun a ha => Ad ?_)))))
    exact ⟨(i + 1, w1), ha.weak ⟨rfl, rfl, congrArg some (AS (BS hil hmla)), trivial⟩, ⟨rfl, hil, h, C9 hall hta htb (AZ hqs)⟩, Nat.sub_lt_sub_left hil (Nat.lt_succ_self i)⟩
 · have hend : i = ma.length := Nat.le_antisymm hi (Nat.le_of_not_lt (of_decide_eq_false hf))
   have hmm : C6 (.list ma) (.list mb) = true := CA hml hend hall
   refine A8 ha (Af (Aa ?_))
   refine (Ab V (CQ _ _ _) V ((Ai V (Ap (f := .list (.st .use)) Fl ra_1 (h.at_ hlta (hAa.sub 1 1))) V ?_)))
   refine (Ab V (CQ _ _ _) V ((Ai V (Ap (f := .list (.st .use)) Fl rb_1 (h.at_ hltb (hAb.sub 1 1))) V ?_)))
   cases hq1 : C6 aa_1 ab_1 with
   | false =>
    refine (Aj call36 V V (SEnc.call (ih _ _ hu) hq1 ra_1 rb_1 h) ?_ Be)
    clear h
    rintro _ w1 ⟨rfl, h⟩
    refine AY _ _ _ V (Ae (AA fun a ha => Au V ha V ⟨by rw [BL (fun e => by cases e; exact Bd hq1 V)], fw.trans h⟩))
   | true =>
    refine (Aj call36 V V (SEnc.call (ih _ _ hu) hq1 ra_1 rb_1 h) ?_ Be)
    clear h
    rintro _ w1 ⟨rfl, h⟩
    refine ((Ac V V ?_))
    refine Ag (j := 5) V V V (Ab V (G6 _ _ _) V (Ag (j := 5) V V V (Ai V (Ap (f := .list (.st .template)) KY ra_2 (h.at_ hlta (hAa.sub 2 1))) V ?_)))
    refine Ag (j := 5) V V V (Ab V (G6 _ _ _) V (Ag (j := 5) V V V (Ai V (Ap (f := .list (.st .template)) KY rb_2 (h.at_ hltb (hAb.sub 2 1))) V ?_)))
    cases hq2 : C6 aa_2 ab_2 with
    | false =>
     refine Ag (j := 5) V V V (Aj call37 V V (SEnc.call RQ hq2 ra_2 rb_2 h) ?_ Be)
     clear h
     rintro _ w1 ⟨rfl, h⟩
     refine AY _ _ _ V (Ae (AA fun a ha => Au V ha V ⟨by rw [BL (fun e => by cases e; exact Bd hq2 V)], fw.trans h⟩))
    | true =>
     refine Ag (j := 5) V V V (Aj call37 V V (SEnc.call RQ hq2 ra_2 rb_2 h) ?_ Be)
     clear h
     rintro _ w1 ⟨rfl, h⟩
     refine (AI V V V (Ac V V ?_))
     refine Ag (j := 12) V V V (Ab V (GF _ _ _) V (Ag (j := 12) V V V (Ai V (Ap (f := .list (.st .dfn)) Lg ra_3 (h.at_ hlta (hAa.sub 3 1))) V ?_)))
     refine Ag (j := 12) V V V (Ab V (GF _ _ _) V (Ag (j := 12) V V V (Ai V (Ap (f := .list (.st .dfn)) Lg rb_3 (h.at_ hltb (hAb.sub 3 1))) V ?_)))
     cases hq3 : C6 aa_3 ab_3 with
     | false =>
      refine Ag (j := 12) V V V (Aj call38 V V (SEnc.call RF hq3 ra_3 rb_3 h) ?_ Be)
      clear h
      rintro _ w1 ⟨rfl, h⟩
      refine AY _ _ _ V (Ae (AA fun a ha => Au V ha V ⟨by rw [BL (fun e => by cases e; exact Bd hq3 V)], fw.trans h⟩))
     | true =>
      refine Ag (j := 12) V V V (Aj call38 V V (SEnc.call RF hq3 ra_3 rb_3 h) ?_ Be)
      clear h
      rintro _ w1 ⟨rfl, h⟩
      refine (AI V V V (Ac V V ?_))
      refine Ag (j := 19) V V V (Ab V (GD _ _ _) V (Ag (j := 19) V V V (Ai V (Ap (f := .list (.st .global)) KX ra_4 (h.at_ hlta (hAa.sub 4 1))) V ?_)))
      refine Ag (j := 19) V V V (Ab V (GD _ _ _) V (Ag (j := 19) V V V (Ai V (Ap (f := .list (.st .global)) KX rb_4 (h.at_ hltb (hAb.sub 4 1))) V ?_)))
      cases hq4 : C6 aa_4 ab_4 with
      | false =>
       refine Ag (j := 19) V V V (Aj call39 V V (SEnc.call RT hq4 ra_4 rb_4 h) ?_ Be)
       clear h
       rintro _ w1 ⟨rfl, h⟩
       refine AY _ _ _ V (Ae (AA fun a ha => Au V ha V ⟨by rw [BL (fun e => by cases e; exact Bd hq4 V)], fw.trans h⟩))
      | true =>
       refine Ag (j := 19) V V V (Aj call39 V V (SEnc.call RT hq4 ra_4 rb_4 h) ?_ Be)
       clear h
       rintro _ w1 ⟨rfl, h⟩
       refine (AI V V V (Ac V V ?_))
       refine Ag (j := 26) V V V (Ab V (DY _ _ _) V (Ag (j := 26) V V V (Ai V (Ap (f := .list (.st .key)) Kn ra_5 (h.at_ hlta (hAa.sub 5 1))) V ?_)))
       refine Ag (j := 26) V V V (Ab V (DY _ _ _) V (Ag (j := 26) V V V (Ai V (Ap (f := .list (.st .key)) Kn rb_5 (h.at_ hltb (hAb.sub 5 1))) V ?_)))
       cases hq5 : C6 aa_5 ab_5 with
       | false =>
        refine Ag (j := 26) V V V (Aj call40 V V (SEnc.call RM hq5 ra_5 rb_5 h) ?_ Be)
        clear h
        rintro _ w1 ⟨rfl, h⟩
        refine AY _ _ _ V (Ae (AA fun a ha => Au V ha V ⟨by rw [BL (fun e => by cases e; exact Bd hq5 V)], fw.trans h⟩))
       | true =>
        refine Ag (j := 26) V V V (Aj call40 V V (SEnc.call RM hq5 ra_5 rb_5 h) ?_ Be)
        clear h
        rintro _ w1 ⟨rfl, h⟩
        refine (AI V V V (Ac V V ?_))
        refine Ag (j := 33) V V V (Ab V (Dm _ _ _) V (Ag (j := 33) V V V (Ai V (Ap (f := .list (.st .accum)) GW ra_6 (h.at_ hlta (hAa.sub 6 1))) V ?_)))
        refine Ag (j := 33) V V V (Ab V (Dm _ _ _) V (Ag (j := 33) V V V (Ai V (Ap (f := .list (.st .accum)) GW rb_6 (h.at_ hltb (hAb.sub 6 1))) V ?_)))
        cases hq6 : C6 aa_6 ab_6 with
        | false =>
         refine Ag (j := 33) V V V (Aj call41 V V (SEnc.call RG hq6 ra_6 rb_6 h) ?_ Be)
         clear h
         rintro _ w1 ⟨rfl, h⟩
         refine AY _ _ _ V (Ae (AA fun a ha => Au V ha V ⟨by rw [BL (fun e => by cases e; exact Bd hq6 V)], fw.trans h⟩))
        | true =>
         refine Ag (j := 33) V V V (Aj call41 V V (SEnc.call RG hq6 ra_6 rb_6 h) ?_ Be)
         clear h
         rintro _ w1 ⟨rfl, h⟩
         refine (AI V V V (Ac V V ?_))
         refine Ag (j := 40) V V V (Ab V (D8 _ _ _) V (Ag (j := 40) V V V (Ai V (Ap (f := .list (.st .output)) Jm ra_8 (h.at_ hlta (hAa.sub 8 1))) V ?_)))
         refine Ag (j := 40) V V V (Ab V (D8 _ _ _) V (Ag (j := 40) V V V (Ai V (Ap (f := .list (.st .output)) Jm rb_8 (h.at_ hltb (hAb.sub 8 1))) V ?_)))
         cases hq8 : C6 aa_8 ab_8 with
         | false =>
          refine Ag (j := 40) V V V (Aj call42 V V (SEnc.call RK hq8 ra_8 rb_8 h) ?_ Be)
          clear h
          rintro _ w1 ⟨rfl, h⟩
          refine AY _ _ _ V (Ae (AA fun a ha => Au V ha V ⟨by rw [BL (fun e => by cases e; exact Bd hq8 V)], fw.trans h⟩))
         | true =>
          refine Ag (j := 40) V V V (Aj call42 V V (SEnc.call RK hq8 ra_8 rb_8 h) ?_ Be)
          clear h
          rintro _ w1 ⟨rfl, h⟩
          refine (AI V V V (Ac V V ?_))
          refine Ag (j := 47) V V V (Ab V (D4 _ _ _) V (Ag (j := 47) V V V (Ai V (Ap (f := .list (.st .charMap)) Je ra_9 (h.at_ hlta (hAa.sub 9 1))) V ?_)))
          refine Ag (j := 47) V V V (Ab V (D4 _ _ _) V (Ag (j := 47) V V V (Ai V (Ap (f := .list (.st .charMap)) Je rb_9 (h.at_ hltb (hAb.sub 9 1))) V ?_)))
          cases hq9 : C6 aa_9 ab_9 with
          | false =>
           refine Ag (j := 47) V V V (Aj call43 V V (SEnc.call RL hq9 ra_9 rb_9 h) ?_ Be)
           clear h
           rintro _ w1 ⟨rfl, h⟩
           refine (AI V V V (Ah V V (Ae (AA fun a ha => Au V ha V ⟨by rw [BL (fun e => by cases e; exact Bd hq9 V)], fw.trans h⟩))))
          | true =>
           refine Ag (j := 47) V V V (Aj call43 V V (SEnc.call RL hq9 ra_9 rb_9 h) ?_ Be)
           clear h
           rintro _ w1 ⟨rfl, h⟩
           refine (AI V V V (Ah V V (Ae (AA fun a ha => Au V ha V ⟨by rw [EJ (by rw [AZ hq0, AZ hq1, AZ hq2, AZ hq3, AZ hq4, AZ hq5, AZ hq6, AZ hmm, AZ hq8, AZ hq9])], fw.trans h⟩))))
end Go.Sx
namespace Go.Sx
open Go.Proofs Go.Proofs.Tryz
theorem Di {P : Program} {w : World} {t e : TypeId} {a : Option Addr} (ht : ∀ w, (underlying t).run P w = .ok (.pointer e) w) :
 (binOp .eql t (.pointer a) (.pointer none)).run P w = .ok (.bool a.isNone) w := by
 have h1 : binOp .eql t (.pointer a) (.pointer none) = (do pure (.bool (← Op.equal t (.pointer a) (.pointer none)))) := rfl
 have h2 : (Op.equal t (.pointer a) (.pointer none)).run P w = .ok a.isNone w := Jt (d := 9999) ht
 rw [h1]
 simp only [Sem.run_bind, h2, Result.andThen_ok, Sem.run_pure]
theorem Sl {t u : T} (ih : ∀ t' u', t'.wt < t.wt → SEnc 17 (.st .sheet) t' u') : SEnc 36 (.list (.st .use)) t u := by
 intro w S cs ds hr hk
 obtain ⟨la, rfl⟩ := hr.is_list
 obtain ⟨lb, rfl⟩ := hk.is_list
 obtain ⟨ga, capa, hva, hmla, hgeta⟩ := Bn hr
 obtain ⟨gb, capb, hvb, hmlb, hgetb⟩ := Bn hk
 rw [hva, hvb]
 obtain ⟨Z, hz, hzl⟩ : ∃ Z : List Value, (∀ w, (zeroValue 48).run prog w = .ok (.agg Z.toArray) w) ∧ Z.length = 4 := ⟨_, zeroValue48, rfl⟩
 refine AB 72 func36 V V V ?_
 refine Af (Aa (Ah V V (Ae ?_)))
 refine Af (Af (Aa (Ac V V (AE V (Ay underlying26) V (Ac V V (AE V (Ay underlying26) V (Al V V (BO (c := decide (la.length ≠ lb.length)) BZ) V (Ae (AK V (fun ht => ?_) (fun hf => A_ fun a ha => Ad ?_))))))))))
 · have hne : la.length ≠ lb.length := of_decide_eq_true ht
   refine Af (Aa (Ah V V (Ae (AA fun a ha => Ao (Au V ha V ⟨by rw [Da hne], Fr.refl _ _⟩)))))
 have hle : la.length = lb.length := Classical.byContradiction (of_decide_eq_false hf)
 refine A8 ha (Af (Af (Aa (Ah V V (Ae ?_)))))
 refine A1 (AW (ι := Nat × World) (fun i => [(0, .slice ga la.length capa), (1, .slice gb lb.length capb), (5, .int .i64 (i.1 : Int))]) (fun i w' => w' = i.2 ∧ i.1 ≤ la.length ∧ F0 w w' ∧ ∀ j, j < i.1 → la[j]? = lb[j]?) (fun i => la.length - i.1)
  (0, w) ⟨V, V, V, trivial⟩ ⟨rfl, Nat.zero_le _, Fr.refl _ _, fun j hj => absurd hj (Nat.not_lt_zero j)⟩ ?_)
 rintro ⟨i, _⟩ w1 ⟨rfl, hi, h, hall⟩
 simp only at hi h hall ⊢
 refine Af (Af (Aa (Ac V V (Ac V V (AE V (Ay underlying26) V (Al V V (Bh (c := decide (i < la.length)) (decide_eq_decide.2 Int.ofNat_lt.symm)) V (Ae (AK V (fun ht => A_ fun a ha => Ad ?_) (fun hf => AQ fun a ha => Aq (Aq (A3 (Ad ?_))))))))))))
 · have hil : i < la.length := of_decide_eq_true ht
   obtain ⟨ta, hta⟩ : ∃ t, la[i]? = some t := ⟨_, List.getElem?_eq_getElem hil⟩
   obtain ⟨tb, htb⟩ : ∃ t, lb[i]? = some t := ⟨_, List.getElem?_eq_getElem (hle ▸ hil)⟩
   have hwa := B5 (List.mem_of_getElem? hta)
   obtain ⟨ba, oa, da, hixa, _, hlta, hAa, ra⟩ := hgeta i ta hta
   obtain ⟨bb, ob, db, hixb, _, hltb, hAb, rb⟩ := hgetb i tb htb
   refine A8 ha (Af (A1 ?_))
   have honea := Rep.one _ _ _ ra
   obtain ⟨wa, hsta, aba, fa⟩ := Dd (w := w1) (z := .agg Z.toArray) (zs := Z) E5 rfl hzl honea.1 honea.2
   refine Af (Aa (Ac V V (Ac V V (A0 V V (hixa _ underlying26 E5 V) V (Ai V (Ap (f := .st .use) E5 ra (h.at_ hlta hAa)) V (AO (hz _) V (An V V hsta (Ae ?_))))))))
   replace h : F0 w wa := h.trans fa
   have honeb := Rep.one _ _ _ rb
   obtain ⟨wb, hstb, abb, fb⟩ := Dd (w := wa) (z := .agg Z.toArray) (zs := Z) E5 rfl hzl honeb.1 honeb.2
   refine Af (Aa (Ac V V (Ac V V (A0 V V (hixb _ underlying26 E5 V) V (Ai V (Ap (f := .st .use) E5 rb (h.at_ hltb hAb)) V (AO (hz _) V (An V V hstb (Ae ?_))))))))
   replace h : F0 w wb := h.trans fb
   replace aba := (fb.blk _ aba.lt (fun h => h)).trans aba
   have hbase := h
   clear h hsta hstb fa fb
   generalize wa.heap.size = bxb at abb ⊢
   generalize w1.heap.size = bxa at aba ⊢
   replace aba : Blk wb bxa da 48 := aba
   replace ra := ra.fresh hbase
   replace rb := rb.fresh hbase
   have hltxa := aba.lt
   have hltxb := abb.lt
   have hAxa := aba.all
   have hAxb := abb.all
   obtain ⟨w1, hw1⟩ : ∃ w1, w1 = wb := ⟨_, rfl⟩
   have h : F0 wb w1 := by rw [hw1]; exact Fr.refl _ _
   rw [← hw1]
   clear hw1
   refine Dc [(0, .slice ga la.length capa), (1, .slice gb lb.length capb), (5, .int .i64 (i : Int)), (6, ptr bxa), (7, ptr bxb)] ⟨V, V, V, V, V, trivial⟩ ?_
   obtain ⟨fla, rfl, hlena, hFa⟩ := ra.st_inv
   obtain ⟨aa_0, fla, rfl, ra_0, hFa⟩ := hFa.cons_inv
   obtain ⟨aa_1, fla, rfl, ra_1, hFa⟩ := hFa.cons_inv
   obtain ⟨aa_2, fla, rfl, ra_2, hFa⟩ := hFa.cons_inv
   obtain ⟨aa_3, fla, rfl, ra_3, hFa⟩ := hFa.cons_inv
   obtain rfl := hFa.nil_inv
   simp only [Nat.zero_add, Nat.reduceAdd, Ty.size] at ra_0 ra_1 ra_2 ra_3
   obtain ⟨flb, rfl, hlenb, hFb⟩ := rb.st_inv
   obtain ⟨ab_0, flb, rfl, rb_0, hFb⟩ := hFb.cons_inv
   obtain ⟨ab_1, flb, rfl, rb_1, hFb⟩ := hFb.cons_inv
   obtain ⟨ab_2, flb, rfl, rb_2, hFb⟩ := hFb.cons_inv
   obtain ⟨ab_3, flb, rfl, rb_3, hFb⟩ := hFb.cons_inv
   obtain rfl := hFb.nil_inv
   simp only [Nat.zero_add, Nat.reduceAdd, Ty.size] at rb_0 rb_1 rb_2 rb_3
   refine Af (C_ (F0 wb) CE (by kernel_rfl) h.drawn ?_)
   clear h
   refine (A5 V (fun w => G0 w _ _) V ((AM V (fun w h => Ap (f := .str) Cc ra_0 (h.at_ hltxa (hAxa.sub 0 1))) V ?_)))
   refine (A5 V (fun w => G0 w _ _) V ((AM V (fun w h => Ap (f := .str) Cc rb_0 (h.at_ hltxb (hAxb.sub 0 1))) V ?_)))
   cases hq0 : C6 aa_0 ab_0 with
   | false =>
    refine (Bc V V (neq9.guard ra_0 rb_0 _ _) (neq9.run' hq0 ra_0 rb_0) V ?_)
    refine BI _ _ _ V (Bm fun w1 h => Ax V ?_)
    exact Af (Aa (Ah V V (Ae (AA fun a ha => Aw (Ao (Ao (Aw (Ao (Au V ha V ⟨by rw [Bj hta htb (fun e => by cases e; exact Bd hq0 V)], hbase.trans h⟩)))))))))
   | true =>
    refine (Bc V V (neq9.guard ra_0 rb_0 _ _) (neq9.run' hq0 ra_0 rb_0) V ((A6 V V ?_)))
    refine Ak (j := 5) V V V (A5 V (fun w => EX w _ _) V (Ak (j := 5) V V V (AM V (fun w h => Ap (f := .int) Cj ra_2 (h.at_ hltxa (hAxa.sub 2 1))) V ?_)))
    refine Ak (j := 5) V V V (A5 V (fun w => EX w _ _) V (Ak (j := 5) V V V (AM V (fun w h => Ap (f := .int) Cj rb_2 (h.at_ hltxb (hAxb.sub 2 1))) V ?_)))
    cases hq2 : C6 aa_2 ab_2 with
    | false =>
     refine Ak (j := 5) V V V (Bc V V (neq3.guard ra_2 rb_2 _ _) (neq3.run' hq2 ra_2 rb_2) V ?_)
     refine BI _ _ _ V (Bm fun w1 h => Ax V ?_)
     exact Af (Aa (Ah V V (Ae (AA fun a ha => Aw (Ao (Ao (Aw (Ao (Au V ha V ⟨by rw [Bj hta htb (fun e => by cases e; exact Bd hq2 V)], hbase.trans h⟩)))))))))
    | true =>
     refine Ak (j := 5) V V V (Bc V V (neq3.guard ra_2 rb_2 _ _) (neq3.run' hq2 ra_2 rb_2) V (BM V V V (A6 V V ?_)))
     refine Ak (j := 12) V V V (A5 V (fun w => Fc w _ _) V (Ak (j := 12) V V V (AM V (fun w h => Ap (f := .int) Cj ra_3 (h.at_ hltxa (hAxa.sub 3 1))) V ?_)))
     refine Ak (j := 12) V V V (A5 V (fun w => Fc w _ _) V (Ak (j := 12) V V V (AM V (fun w h => Ap (f := .int) Cj rb_3 (h.at_ hltxb (hAxb.sub 3 1))) V ?_)))
     cases hq3 : C6 aa_3 ab_3 with
     | false =>
      refine Ak (j := 12) V V V (Bc V V (neq3.guard ra_3 rb_3 _ _) (neq3.run' hq3 ra_3 rb_3) V ?_)
      refine BI _ _ _ V (Bm fun w1 h => Ax V ?_)
      exact Af (Aa (Ah V V (Ae (AA fun a ha => Aw (Ao (Ao (Aw (Ao (Au V ha V ⟨by rw [Bj hta htb (fun e => by cases e; exact Bd hq3 V)], hbase.trans h⟩)))))))))
     | true =>
      refine Ak (j := 12) V V V (Bc V V (neq3.guard ra_3 rb_3 _ _) (neq3.run' hq3 ra_3 rb_3) V (BM V V V (A6 V V ?_)))
      have rbool : ∀ b : Bool, Rep wb S (.bool b) .bool [.bool b] := fun b => by simp [Rep]
      have nb : ∀ (x y : Bool) (w : World), (binOp .neq 4 (.bool x) (.bool y)).run prog w = .ok (.bool (!C6 (.bool x) (.bool y))) w := fun x y w => neq4.run (rbool x) (rbool y) w
      rcases ra_1.ptr_inv with ⟨rfl, hpa⟩ | ⟨ua, bua, oua, dua, rfl, hpa, hSua, hltua, hAua, hlua, rua⟩ <;> rcases rb_1.ptr_inv with ⟨rfl, hpb⟩ | ⟨ub, bub, oub, dub, rfl, hpb, hSub, hltub, hAub, hlub, rub⟩
      · skip
        refine Ak (j := 19) V V V (A5 V (fun w => C3 w _ _) V (Ak (j := 19) V V V (AM V (fun w h => A4 E9 (LH hpa (h.at_ hltxa (hAxa.sub 1 1)))) V ?_)))
        refine Ak (j := 19) V V V (Bc V V (fun _ => Co) (fun _ => Di runUnderlying46) V ?_)
        refine Ak (j := 19) V V V (A5 V (fun w => C3 w _ _) V (Ak (j := 19) V V V (AM V (fun w h => A4 E9 (LH hpb (h.at_ hltxb (hAxb.sub 1 1)))) V ?_)))
        refine Ak (j := 19) V V V (Bc V V (fun _ => Co) (fun _ => Di runUnderlying46) V ?_)
        refine Ak (j := 19) V V V (Bc (v := .bool false) V V (fun _ => by unfold eqGuard; rfl) (fun w => (nb true true w).trans (by rw [EJ rfl]; rfl)) V ?_)
        refine BM V V V (A6 V V ?_)
        refine Ak (j := 28) V V V (A5 V (fun w => C3 w _ _) V (Ak (j := 28) V V V (AM V (fun w h => A4 E9 (LH hpa (h.at_ hltxa (hAxa.sub 1 1)))) V ?_)))
        refine Ak (j := 28) V V V (Bc V V (fun _ => Co) (fun _ => EY runUnderlying46) V ?_)
        refine Ak (j := 28) V V V (A6 V V ?_)
        refine CR V V V V V (CR V V V V V (CR V V V V V (CR V V V V V (CR V V V V V (CR V V V V V (CR V V V V V (CR V V V V V (CR V V V V V (CR V V V V V (Ak (j := 28) V V V (BM V V V (BM V V V ?_))))))))))))
        refine Bm fun w1 h => A9 V (A_ fun a ha => Az (Ad ?_))
        refine A8 ha (Aa (Ac V V (Al V V V V (Ah V V (A2 fun a ha => Ad ?_)))))
        exact ⟨(i + 1, w1), ha.weak ⟨rfl, rfl, congrArg some (AS (BS hil hmla)), trivial⟩, ⟨rfl, hil, hbase.trans h, C9 hall hta htb (by rw [AZ hq0, AZ hq2, AZ hq3])⟩, Nat.sub_lt_sub_left hil (Nat.lt_succ_self i)⟩
      · skip
        refine Ak (j := 19) V V V (A5 V (fun w => C3 w _ _) V (Ak (j := 19) V V V (AM V (fun w h => A4 E9 (LH hpa (h.at_ hltxa (hAxa.sub 1 1)))) V ?_)))
        refine Ak (j := 19) V V V (Bc V V (fun _ => Co) (fun _ => Di runUnderlying46) V ?_)
        refine Ak (j := 19) V V V (A5 V (fun w => C3 w _ _) V (Ak (j := 19) V V V (AM V (fun w h => A4 E9 (LH hpb (h.at_ hltxb (hAxb.sub 1 1)))) V ?_)))
        refine Ak (j := 19) V V V (Bc V V (fun _ => Co) (fun _ => Di runUnderlying46) V ?_)
        refine Ak (j := 19) V V V (Bc (v := .bool true) V V (fun _ => by unfold eqGuard; rfl) (fun w => (nb true false w).trans (by rw [BL (by simp)]; rfl)) V ?_)
        refine BI _ _ _ V (Bm fun w1 h => Ax V ?_)
        exact Af (Aa (Ah V V (Ae (AA fun a ha => Aw (Ao (Ao (Aw (Ao (Au V ha V ⟨by rw [Bj hta htb (fun e => by cases e)], hbase.trans h⟩)))))))))
      · skip
        refine Ak (j := 19) V V V (A5 V (fun w => C3 w _ _) V (Ak (j := 19) V V V (AM V (fun w h => A4 E9 (LH hpa (h.at_ hltxa (hAxa.sub 1 1)))) V ?_)))
        refine Ak (j := 19) V V V (Bc V V (fun _ => Co) (fun _ => Di runUnderlying46) V ?_)
        refine Ak (j := 19) V V V (A5 V (fun w => C3 w _ _) V (Ak (j := 19) V V V (AM V (fun w h => A4 E9 (LH hpb (h.at_ hltxb (hAxb.sub 1 1)))) V ?_)))
        refine Ak (j := 19) V V V (Bc V V (fun _ => Co) (fun _ => Di runUnderlying46) V ?_)
        refine Ak (j := 19) V V V (Bc (v := .bool true) V V (fun _ => by unfold eqGuard; rfl) (fun w => (nb false true w).trans (by rw [BL (by simp)]; rfl)) V ?_)
        refine BI _ _ _ V (Bm fun w1 h => Ax V ?_)
        exact Af (Aa (Ah V V (Ae (AA fun a ha => Aw (Ao (Ao (Aw (Ao (Au V ha V ⟨by rw [Bj hta htb (fun e => by cases e)], hbase.trans h⟩)))))))))
      · skip
        refine Ak (j := 19) V V V (A5 V (fun w => C3 w _ _) V (Ak (j := 19) V V V (AM V (fun w h => A4 E9 (LH hpa (h.at_ hltxa (hAxa.sub 1 1)))) V ?_)))
        refine Ak (j := 19) V V V (Bc V V (fun _ => Co) (fun _ => Di runUnderlying46) V ?_)
        refine Ak (j := 19) V V V (A5 V (fun w => C3 w _ _) V (Ak (j := 19) V V V (AM V (fun w h => A4 E9 (LH hpb (h.at_ hltxb (hAxb.sub 1 1)))) V ?_)))
        refine Ak (j := 19) V V V (Bc V V (fun _ => Co) (fun _ => Di runUnderlying46) V ?_)
        refine Ak (j := 19) V V V (Bc (v := .bool false) V V (fun _ => by unfold eqGuard; rfl) (fun w => (nb false false w).trans (by rw [EJ rfl]; rfl)) V ?_)
        refine BM V V V (A6 V V ?_)
        refine Ak (j := 28) V V V (A5 V (fun w => C3 w _ _) V (Ak (j := 28) V V V (AM V (fun w h => A4 E9 (LH hpa (h.at_ hltxa (hAxa.sub 1 1)))) V ?_)))
        refine Ak (j := 28) V V V (Bc V V (fun _ => Co) (fun _ => EY runUnderlying46) V ?_)
        refine Ak (j := 28) V V V (A6 V V ?_)
        refine Ak (j := 32) V V V (A5 V (fun w => C3 w _ _) V (Ak (j := 32) V V V (AM V (fun w h => A4 E9 (LH hpa (h.at_ hltxa (hAxa.sub 1 1)))) V ?_)))
        refine Ak (j := 32) V V V (Cg V V (Ak (j := 32) V V V (AM V (fun w h => Ap (f := .st .sheet) EE rua (h.at_ hltua hAua)) V ?_)))
        refine Ak (j := 32) V V V (A5 V (fun w => C3 w _ _) V (Ak (j := 32) V V V (AM V (fun w h => A4 E9 (LH hpb (h.at_ hltxb (hAxb.sub 1 1)))) V ?_)))
        refine Ak (j := 32) V V V (Cg V V (Ak (j := 32) V V V (AM V (fun w h => Ap (f := .st .sheet) EE rub (h.at_ hltub hAub)) V ?_)))
        have hlw : ua.wt < (T.list la).wt := Nat.lt_of_le_of_lt (by simp [T.wt]) (De (t := .ptr ua) (by simp) hwa (Nat.le_refl _))
        cases hq1 : C6 ua ub with
        | false =>
         refine Ak (j := 32) V V V (Cf call17 V V (SEnc.quiet (ih _ _ hlw) hq1 rua rub) (Ak (j := 32) V V V (C4 V V (Ak (j := 28) V V V (BM V V V (BM V V V ?_))))))
         refine Bm fun w1 h => Ax V ?_
         exact Af (Aa (Ah V V (Ae (AA fun a ha => Aw (Ao (Ao (Aw (Ao (Au V ha V ⟨by rw [Bj hta htb (fun e => by cases e; exact Bd hq1 V)], hbase.trans h⟩)))))))))
        | true =>
         refine Ak (j := 32) V V V (Cf call17 V V (SEnc.quiet (ih _ _ hlw) hq1 rua rub) (Ak (j := 32) V V V (C4 V V (Ak (j := 28) V V V (BM V V V (BM V V V ?_))))))
         refine Bm fun w1 h => A9 V (A_ fun a ha => Az (Ad ?_))
         refine A8 ha (Aa (Ac V V (Al V V V V (Ah V V (A2 fun a ha => Ad ?_)))))
         exact ⟨(i + 1, w1), ha.weak ⟨rfl, rfl, congrArg some (AS (BS hil hmla)), trivial⟩, ⟨rfl, hil, hbase.trans h, C9 hall hta htb (by rw [AZ hq0, AZ hq2, AZ hq3, AZ hq1])⟩, Nat.sub_lt_sub_left hil (Nat.lt_succ_self i)⟩
 · have hend : i = la.length := Nat.le_antisymm hi (Nat.le_of_not_lt (of_decide_eq_false hf))
   exact A8 ha (Af (Aa (Ah V V (Ae (AA fun a ha => Au V ha V ⟨by rw [CA hle hend hall], h⟩)))))
end Go.Sx
namespace Go.Sx
open Go.Proofs Go.Proofs.Tryz
theorem OE : ∀ (N : Nat) (t u : T), t.wt ≤ N → SEnc 17 (.st .sheet) t u := by
 intro N
 induction N using Nat.strongRecOn with
 | _ N IH =>
 intro t u hN
 exact Si (fun t' u' h' => Sl (fun t2 u2 h2 => IH t2.wt (Nat.lt_of_lt_of_le (Nat.lt_trans h2 h') hN) t2 u2 (Nat.le_refl _)))
theorem Ps {t u : T} : SEnc 17 (.st .sheet) t u := OE t.wt t u (Nat.le_refl _)
end Go.Sx
namespace Go.Sx
end Go.Sx
namespace Go.Sx
open Go.Proofs Go.Proofs.Tryz
theorem Oc {w w' : World} {r : Option (List UInt8)} {v : Value} (h : Pn w r v w') : ∃ vb g c, v = .tuple #[vb, .int .i64 (if r.isSome then 0 else 2)] ∧ vb = .slice g (r.getD []).length c ∧ Bts w' vb (r.getD []) ∧ F0 w w' := by
 obtain ⟨vb, f, h⟩ := h
 cases r with
 | none =>
  obtain ⟨rfl, rfl⟩ := h
  exact ⟨_, none, 0, rfl, rfl, ⟨Nat.zero_le _, .inl ⟨rfl, rfl⟩⟩, f.none⟩
 | some bs =>
  obtain ⟨rfl, h⟩ := h
  obtain ⟨g, c, rfl, _⟩ := Dr h
  exact ⟨_, g, c, rfl, rfl, BH h, f.none⟩
inductive Q4 : List Value → Prop
 | mk {s : ByteArray} {g1 : Option Addr} {n1 c1 : Nat} {g2 : Option Addr} {n2 c2 : Nat} {g3 : Option Addr} {n3 c3 : Nat} {g4 : Option Addr} {n4 c4 : Nat} {g5 : Option Addr} {n5 c5 : Nat} {g6 : Option Addr} {n6 c6 : Nat} {g7 : Option Addr} {n7 c7 : Nat} {g8 : Option Addr} {n8 c8 : Nat} : Q4 [.string s, .slice g1 n1 c1, .slice g2 n2 c2, .slice g3 n3 c3, .slice g4 n4 c4, .slice g5 n5 c5, .slice g6 n6 c6, .slice g7 n7 c7, .slice g8 n8 c8]
def PK : List Value → List Value
 | [] => []
 | b :: r => b :: .slice none 0 0 :: r
structure QY (w : World) (t : T) (bs : List Value) : Prop where
 nine : Q4 bs
 rep : Rep w (fun _ => True) t (.st .sheet) (PK bs)
end Go.Sx
namespace Go.Sx
open Go.Proofs Go.Proofs.Tryz
theorem Qb : By prog 36 true 10 := EE
end Go.Sx
